import Derived.Test.YtkbhnkagiaghnaaDoorPx0
import Derived.Test.YtkbhnkagiaghnaaDoorPx1
import Derived.Test.YtkbhnkagiaghnaaDoorPx4
import Derived.Test.YtkbhnkagiaghnaaDoorPx6
import Derived.Test.YtkbhnkagiaghnaaDoorPx9
import Derived.Test.YtkbhnkagiaghnaaDoorPx10
namespace Go.Proofs.YtkbhnkagiaghnaaDoor.P
open Go.RowKit Go.Proofs.YtkbhnkagiaghnaaDoorW.PrintWords Go.Proofs.YtkbhnkagiaghnaaDoorW.PrintLast Go.Proofs.YtkbhnkagiaghnaaDoorW.PrintMore
attribute [local go_sem] max2_int min2_int max_two min_two max_three min_three max_four min_four   -- for this text's walks alone
set_option linter.unusedVariables false
set_option linter.unusedSimpArgs false
/-! ### styluslaw52_MergePieces: function 3 -/
mutual
def styluslaw52_MergePieces.j0 : Nat → List ByteArray → List ByteArray → List ByteArray → Bool → Option (Bool)
 | 0, _, _, _, _ => none
 | k + 1, x0, x1, x2, x22 => if x22 = true then ((styluslaw52_lives.f).bind fun t218 => (some t218)) else ((merge_Pieces.f k x0 x1 x2).bind fun t219 => ((stylusref52_Pieces.f k x0 x1 x2).bind fun t222 => (if (t219.length : Int) = (t222.length : Int) then (styluslaw52_MergePieces.l0 k t219 t222 0) else (none))))
def styluslaw52_MergePieces.l0 : Nat → List (S30) → List (S31) → Int → Option (Bool)
 | 0, _, _, _ => none
 | k + 1, x7, x8, x9 => if x9 < (x7.length : Int) then (if 0 ≤ x9 then (if x9 < (x8.length : Int) then (if (((rd_T30 x7 x9).f3) != ((rd_T31 x8 x9).f3)) = true then (none) else ((stylusref51_Texts.f k ((rd_T30 x7 x9).f0) ((rd_T31 x8 x9).f0)).bind fun t230 => (if t230 = true then ((stylusref51_Texts.f k ((rd_T30 x7 x9).f1) ((rd_T31 x8 x9).f1)).bind fun t233 => (if t233 = true then ((stylusref51_Texts.f k ((rd_T30 x7 x9).f2) ((rd_T31 x8 x9).f2)).bind fun t236 => (if t236 = true then (styluslaw52_MergePieces.l0 k x7 x8 (wrap64 (x9 + 1))) else (none))) else (none))) else (none)))) else (none)) else (none)) else ((styluslaw52_lives.f).bind fun t225 => (some t225))
end
def styluslaw52_MergePieces.f (k : Nat) (l0 : List ByteArray) (l1 : List ByteArray) (l2 : List ByteArray) : Option (Bool) := (styluslaw52_few.f k l0).bind fun t215 => (if t215 = true then ((styluslaw52_few.f k l1).bind fun t216 => (if t216 = true then ((styluslaw52_few.f k l2).bind fun t217 => (styluslaw52_MergePieces.j0 k l0 l1 l2 (!t217))) else (styluslaw52_MergePieces.j0 k l0 l1 l2 true))) else (styluslaw52_MergePieces.j0 k l0 l1 l2 true))
def styluslaw52_MergePieces.T9 : Bool × List (List Nat × List Nat) := (true, [([], []), ([], []), ([0, 1], [0, 1]), ([2], [2]), ([3], [3]), ([], []), ([], []), ([5, 6], [5, 6]), ([7], [7]), ([8], [8]), ([4, 9], [4, 9]), ([10], [10]), ([11], [11]), ([11], [11]), ([12, 13, 11], [11, 12, 13]), ([14, 11], [11, 14]), ([15, 11], [11, 15]), ([11], [11]), ([11], [11]), ([17, 18, 11], [11, 17, 18]), ([19, 11], [11, 19]), ([20, 11], [11, 20]), ([16, 21, 11, 11], [11, 16, 21]), ([22, 11], [11, 22]), ([11, 23], [11, 23]), ([24, 22], [24]), ([25], [25]), ([25], [25]), ([26, 27, 25], [25, 26, 27]), ([28, 25], [25, 28]), ([29, 25], [25, 29]), ([25], [25]), ([25], [25]), ([31, 32, 25], [25, 31, 32]), ([33, 25], [25, 33]), ([34, 25], [25, 34]), ([30, 35, 25, 25], [25, 30, 35]), ([36, 25], [25, 36]), ([25, 37], [25, 37]), ([38, 36], [38]), ([39], [39]), ([39], [39]), ([40, 41, 39], [39, 40, 41]), ([42, 39], [39, 42]), ([43, 39], [39, 43]), ([39], [39]), ([39], [39]), ([45, 46, 39], [39, 45, 46]), ([47, 39], [39, 47]), ([48, 39], [39, 48]), ([44, 49, 39, 39], [39, 44, 49]), ([50, 39], [39, 50]), ([39, 51], [39, 51])])
def styluslaw52_MergePieces.B9 : List Nat := [0, 0, 3, 7, 15, 0, 0, 96, 224, 480, 1023, 2047, 4095, 4095, 16383, 32767, 65535, 4095, 4095, 397311, 921599, 1970175, 4194303, 8388607, 16777215, 33554431, 67108863, 67108863, 268435455, 536870911, 1073741823, 67108863, 67108863, 6509559807, 15099494399, 32279363583, 68719476735, 137438953471, 274877906943, 549755813887, 1099511627775, 1099511627775, 4398046511103, 8796093022207, 17592186044415, 1099511627775, 1099511627775, 106652627894271, 247390116249599, 528865092960255, 1125899906842623, 2251799813685247, 4503599627370495]
theorem styluslaw52_MergePieces.tab9 : rtab .any (opsOf Tryd.f3 9) = styluslaw52_MergePieces.T9 := by kernel_rfl
theorem styluslaw52_MergePieces.bits9 : waitsOk styluslaw52_MergePieces.T9.2 styluslaw52_MergePieces.B9 = true := by kernel_rfl
set_option maxHeartbeats 8000000 in
set_option maxRecDepth 100000 in
theorem styluslaw52_MergePieces.calls (k : Nat) (A0 : Option Addr) (c0 : Nat) (l0 : List ByteArray) (A1 : Option Addr) (c1 : Nat) (l1 : List ByteArray) (A2 : Option Addr) (c2 : Nat) (l2 : List ByteArray) (r : Bool) (w : World) (hr0 : Kd.C Kd.string w A0 l0.length l0) (hc0 : l0.length ≤ c0) (hr1 : Kd.C Kd.string w A1 l1.length l1) (hc1 : l1.length ≤ c1) (hr2 : Kd.C Kd.string w A2 l2.length l2) (hc2 : l2.length ≤ c2) (h : styluslaw52_MergePieces.f k l0 l1 l2 = some r) :
  Calls Tryd.prog 3 #[.slice A0 l0.length c0, .slice A1 l1.length c1, .slice A2 l2.length c2] w fun e w' => e = .returned (.bool r) ∧ Below w.heap.size w w' := by
 have HR0 := Aside0.mk hr0
 have HC0 := Aside0.mk hc0
 clear hr0 hc0
 have HR1 := Aside0.mk hr1
 have HC1 := Aside0.mk hc1
 clear hr1 hc1
 have HR2 := Aside0.mk hr2
 have HC2 := Aside0.mk hc2
 clear hr2 hc2
 have HB := Aside0.mk (Below.refl w.heap.size w)
 have H : ((styluslaw52_few.f k l0).bind fun t215 => (if t215 = true then ((styluslaw52_few.f k l1).bind fun t216 => (if t216 = true then ((styluslaw52_few.f k l2).bind fun t217 => (styluslaw52_MergePieces.j0 k l0 l1 l2 (!t217))) else (styluslaw52_MergePieces.j0 k l0 l1 l2 true))) else (styluslaw52_MergePieces.j0 k l0 l1 l2 true))) = some r := h
 clear h
 have HC4 := Aside0.mk H
 clear H
 go_enter Tryd.func3, Tryd.ntmps3
 go_upto_region 1 with (fail)
 go_cut [22] (fun v22 wc => ∃ (kq : Nat) (x22_3 : Bool), v22 = .bool x22_3 ∧ Aside0 (styluslaw52_MergePieces.j0 kq l0 l1 l2 x22_3 = some r) ∧ Aside0 (kq ≤ k) ∧ Aside0 (Below w.heap.size w wc))
 case first =>
  have H := HC4.out
  clear HC4
  replace H := Option.bind_eq_some_iff.mp H
  obtain ⟨t215, A50, H⟩ := H
  replace H : (if t215 = true then ((styluslaw52_few.f k l1).bind fun t216 => (if t216 = true then ((styluslaw52_few.f k l2).bind fun t217 => (styluslaw52_MergePieces.j0 k l0 l1 l2 (!t217))) else (styluslaw52_MergePieces.j0 k l0 l1 l2 true))) else (styluslaw52_MergePieces.j0 k l0 l1 l2 true)) = some r := H
  have A5 := Aside0.mk A50
  clear A50
  by_cases c6 : t215 = true
  ·subst c6
   have H1 : ((styluslaw52_few.f k l1).bind fun t216 => (if t216 = true then ((styluslaw52_few.f k l2).bind fun t217 => (styluslaw52_MergePieces.j0 k l0 l1 l2 (!t217))) else (styluslaw52_MergePieces.j0 k l0 l1 l2 true))) = some r := by rw [if_pos rfl] at H; exact H
   clear H
   have H := H1
   clear H1
   replace H := Option.bind_eq_some_iff.mp H
   obtain ⟨t216, A70, H⟩ := H
   replace H : (if t216 = true then ((styluslaw52_few.f k l2).bind fun t217 => (styluslaw52_MergePieces.j0 k l0 l1 l2 (!t217))) else (styluslaw52_MergePieces.j0 k l0 l1 l2 true)) = some r := H
   have A7 := Aside0.mk A70
   clear A70
   by_cases c8 : t216 = true
   ·subst c8
    have H1 : ((styluslaw52_few.f k l2).bind fun t217 => (styluslaw52_MergePieces.j0 k l0 l1 l2 (!t217))) = some r := by rw [if_pos rfl] at H; exact H
    clear H
    have H := H1
    clear H1
    replace H := Option.bind_eq_some_iff.mp H
    obtain ⟨t217, A90, H⟩ := H
    replace H : (styluslaw52_MergePieces.j0 k l0 l1 l2 (!t217)) = some r := H
    have A9 := Aside0.mk A90
    clear A90
    have H' := Aside0.mk H
    clear H
    go_wp2_with (first | ((with_reducible refine gate_callee (f := 6) rfl ?_); refine goesL_ (some 11) rfl rfl Tryd.func6 (by kernel_rfl) rfl #[.slice A0 l0.length c0] rfl (by (try simp only [List.map_toArray, List.map_cons, List.map_nil]); first | done | rfl | (simp only [List.length_drop, List.length_take]; rfl)) ?_; (with_reducible refine (styluslaw52_few.calls k _ _ l0 true _ ?side1 ?side2 A5.out).mono ?_); (case side1 => repeat (first | exact (Kd.C_below HR0.out HB.out) | (with_reducible refine Kd.C_alloc ?_ _) | (with_reducible refine Kd.C_drewN ?_ _) | (with_reducible refine Kd.C_drew ?_))); (case side2 => exact HC0.out); rintro e w' ⟨rfl, ⟨nd, rfl⟩⟩; refine ⟨_, rfl, ?_⟩) | (go_at_call 6; (with_reducible refine (styluslaw52_few.calls k _ _ l1 true _ ?side1 ?side2 A7.out).mono ?_); (case side1 => repeat (first | exact (Kd.C_below HR1.out (by repeat (first | (with_reducible first | exact HB.out | apply below_alloc | apply pw_below_drewN | apply below_drew1) | exact HB.out))) | (with_reducible refine Kd.C_alloc ?_ _) | (with_reducible refine Kd.C_drewN ?_ _) | (with_reducible refine Kd.C_drew ?_))); (case side2 => exact HC1.out); rintro e w' ⟨rfl, ⟨nd, rfl⟩⟩) | (go_at_call 6; (with_reducible refine (styluslaw52_few.calls k _ _ l2 t217 _ ?side1 ?side2 A9.out).mono ?_); (case side1 => repeat (first | exact (Kd.C_below HR2.out (by repeat (first | (with_reducible first | exact HB.out | apply below_alloc | apply pw_below_drewN | apply below_drew1) | exact HB.out))) | (with_reducible refine Kd.C_alloc ?_ _) | (with_reducible refine Kd.C_drewN ?_ _) | (with_reducible refine Kd.C_drew ?_))); (case side2 => exact HC2.out); rintro e w' ⟨rfl, ⟨nd, rfl⟩⟩))
    go_meet
    case rel => exact ⟨_, (!t217), (by first | rfl | (simp; done) | (simp [*]; done)), H', ⟨by first | omega | exact Nat.le_refl _⟩, ⟨by repeat (first | (with_reducible first | exact HB.out | apply below_alloc | apply pw_below_drewN | apply below_drew1) | exact HB.out)⟩⟩
   ·replace c8 := Bool.eq_false_iff.mpr c8
    subst c8
    have H1 : (styluslaw52_MergePieces.j0 k l0 l1 l2 true) = some r := by rw [if_neg (show ¬ (false = true) by decide)] at H; exact H
    clear H
    have H := H1
    clear H1
    have H' := Aside0.mk H
    clear H
    go_wp2_with (first | ((with_reducible refine gate_callee (f := 6) rfl ?_); refine goesL_ (some 11) rfl rfl Tryd.func6 (by kernel_rfl) rfl #[.slice A0 l0.length c0] rfl (by (try simp only [List.map_toArray, List.map_cons, List.map_nil]); first | done | rfl | (simp only [List.length_drop, List.length_take]; rfl)) ?_; (with_reducible refine (styluslaw52_few.calls k _ _ l0 true _ ?side1 ?side2 A5.out).mono ?_); (case side1 => repeat (first | exact (Kd.C_below HR0.out HB.out) | (with_reducible refine Kd.C_alloc ?_ _) | (with_reducible refine Kd.C_drewN ?_ _) | (with_reducible refine Kd.C_drew ?_))); (case side2 => exact HC0.out); rintro e w' ⟨rfl, ⟨nd, rfl⟩⟩; refine ⟨_, rfl, ?_⟩) | (go_at_call 6; (with_reducible refine (styluslaw52_few.calls k _ _ l1 false _ ?side1 ?side2 A7.out).mono ?_); (case side1 => repeat (first | exact (Kd.C_below HR1.out (by repeat (first | (with_reducible first | exact HB.out | apply below_alloc | apply pw_below_drewN | apply below_drew1) | exact HB.out))) | (with_reducible refine Kd.C_alloc ?_ _) | (with_reducible refine Kd.C_drewN ?_ _) | (with_reducible refine Kd.C_drew ?_))); (case side2 => exact HC1.out); rintro e w' ⟨rfl, ⟨nd, rfl⟩⟩))
    go_meet
    case rel => exact ⟨_, (true), (by first | rfl | (simp; done) | (simp [*]; done)), H', ⟨by first | omega | exact Nat.le_refl _⟩, ⟨by repeat (first | (with_reducible first | exact HB.out | apply below_alloc | apply pw_below_drewN | apply below_drew1) | exact HB.out)⟩⟩
  ·replace c6 := Bool.eq_false_iff.mpr c6
   subst c6
   have H1 : (styluslaw52_MergePieces.j0 k l0 l1 l2 true) = some r := by rw [if_neg (show ¬ (false = true) by decide)] at H; exact H
   clear H
   have H := H1
   clear H1
   have H' := Aside0.mk H
   clear H
   go_wp2_with (first | ((with_reducible refine gate_callee (f := 6) rfl ?_); refine goesL_ (some 11) rfl rfl Tryd.func6 (by kernel_rfl) rfl #[.slice A0 l0.length c0] rfl (by (try simp only [List.map_toArray, List.map_cons, List.map_nil]); first | done | rfl | (simp only [List.length_drop, List.length_take]; rfl)) ?_; (with_reducible refine (styluslaw52_few.calls k _ _ l0 false _ ?side1 ?side2 A5.out).mono ?_); (case side1 => repeat (first | exact (Kd.C_below HR0.out HB.out) | (with_reducible refine Kd.C_alloc ?_ _) | (with_reducible refine Kd.C_drewN ?_ _) | (with_reducible refine Kd.C_drew ?_))); (case side2 => exact HC0.out); rintro e w' ⟨rfl, ⟨nd, rfl⟩⟩; refine ⟨_, rfl, ?_⟩))
   go_meet
   case rel => exact ⟨_, (true), (by first | rfl | (simp; done) | (simp [*]; done)), H', ⟨by first | omega | exact Nat.le_refl _⟩, ⟨by repeat (first | (with_reducible first | exact HB.out | apply below_alloc | apply pw_below_drewN | apply below_drew1) | exact HB.out)⟩⟩
 case rest =>
  clear HC4
  try clear c1
  try clear c2
  try clear p2
  try clear c3
  try clear c6
  try clear c8
  obtain ⟨kq, x22_3, rfl, HA, HJ3, HB⟩ := hcut
  cases kq with
  | zero => exact absurd HA.out (by simp [styluslaw52_MergePieces.j0])
  | succ kj3 =>
   have H := HA.out
   clear HA
   simp only [styluslaw52_MergePieces.j0] at H
   by_cases c10 : x22_3 = true
   ·subst c10
    have H1 : ((styluslaw52_lives.f).bind fun t218 => (some t218)) = some r := by rw [if_pos rfl] at H; exact H
    clear H
    have H := H1
    clear H1
    replace H := Option.bind_eq_some_iff.mp H
    obtain ⟨t218, A110, H⟩ := H
    replace H : (some t218) = some r := H
    have A11 := Aside0.mk A110
    clear A110
    obtain rfl := Option.some.inj H
    go_wp2_with (first | ((with_reducible refine gate_callee (f := 7) rfl ?_); refine goesL_ (some 23) rfl rfl Tryd.func7 (by kernel_rfl) rfl #[] rfl (by (try simp only [List.map_toArray, List.map_cons, List.map_nil]); first | done | rfl | (simp only [List.length_drop, List.length_take]; rfl)) ?_; (with_reducible refine (styluslaw52_lives.calls  t218 _ A11.out).mono ?_); rintro e w12 ⟨rfl, hb⟩; refine ⟨_, rfl, ?_⟩; have n0_ := Aside0.mk (below_step (by repeat (first | (with_reducible first | exact HB.out | apply below_alloc | apply pw_below_drewN | apply below_drew1) | exact HB.out)) hb); clear HB; have HB := n0_; clear n0_; (try clear hb); (try clear hb2); (try clear hk); (try clear hi)))
    go_ret
    exact ⟨by first | rfl | (simp [errW_none, errW_some] <;> rfl) | (simp [*, errW_none, errW_some] <;> rfl), by repeat (first | (with_reducible first | exact HB.out | apply below_alloc | apply pw_below_drewN | apply below_drew1) | exact HB.out)⟩
   ·replace c10 := Bool.eq_false_iff.mpr c10
    subst c10
    have H1 : ((merge_Pieces.f kj3 l0 l1 l2).bind fun t219 => ((stylusref52_Pieces.f kj3 l0 l1 l2).bind fun t222 => (if (t219.length : Int) = (t222.length : Int) then (styluslaw52_MergePieces.l0 kj3 t219 t222 0) else (none)))) = some r := by rw [if_neg (show ¬ (false = true) by decide)] at H; exact H
    clear H
    have H := H1
    clear H1
    replace H := Option.bind_eq_some_iff.mp H
    obtain ⟨t219, A130, H⟩ := H
    replace H : ((stylusref52_Pieces.f kj3 l0 l1 l2).bind fun t222 => (if (t219.length : Int) = (t222.length : Int) then (styluslaw52_MergePieces.l0 kj3 t219 t222 0) else (none))) = some r := H
    have A13 := Aside0.mk A130
    clear A130
    replace H := Option.bind_eq_some_iff.mp H
    obtain ⟨t222, A140, H⟩ := H
    replace H : (if (t219.length : Int) = (t222.length : Int) then (styluslaw52_MergePieces.l0 kj3 t219 t222 0) else (none)) = some r := H
    have A14 := Aside0.mk A140
    clear A140
    by_cases c15 : (t219.length : Int) = (t222.length : Int)
    ·rw [if_pos c15] at H
     have c15b0 : ((t219.length : Int) == (t222.length : Int)) = true := beq_iff_eq.mpr c15
     have c15b1 : ((t219.length : Int) != (t222.length : Int)) = false := bne_eq_false_iff_eq.mpr c15
     have c15b2 : (t219.length == t222.length) = true := by first | simpa using c15 | (simp at c15 ⊢; omega)
     clear c15
     have H' := Aside0.mk H
     clear H
     go_wp2_with (first | ((with_reducible refine gate_callee (f := 8) rfl ?_); refine goesL_ (some 27) rfl rfl Tryd.func8 (by kernel_rfl) rfl #[.slice A0 l0.length c0, .slice A1 l1.length c1, .slice A2 l2.length c2] rfl (by (try simp only [List.map_toArray, List.map_cons, List.map_nil]); first | done | rfl | (simp only [List.length_drop, List.length_take]; rfl)) ?_; (with_reducible refine (merge_Pieces.calls kj3 (fun k_ => k_ < w.heap.size) _ _ l0 (fun k_ => k_ < w.heap.size) _ _ l1 (fun k_ => k_ < w.heap.size) _ _ l2 t219 _ ?side1 ?side2 ?side3 A13.out).mono ?_); (case side1 => exact Kd.V_mk HC0.out (Kd.F_below (Kd.C_F Kd.heap_string HR0.out) (by repeat (first | (with_reducible first | exact HB.out | apply below_alloc | apply pw_below_drewN | apply below_drew1) | exact HB.out)))); (case side2 => exact Kd.V_mk HC1.out (Kd.F_below (Kd.C_F Kd.heap_string HR1.out) (by repeat (first | (with_reducible first | exact HB.out | apply below_alloc | apply pw_below_drewN | apply below_drew1) | exact HB.out)))); (case side3 => exact Kd.V_mk HC2.out (Kd.F_below (Kd.C_F Kd.heap_string HR2.out) (by repeat (first | (with_reducible first | exact HB.out | apply below_alloc | apply pw_below_drewN | apply below_drew1) | exact HB.out)))); rintro e w16 ⟨v220, rfl, ho0, hb⟩; refine ⟨_, rfl, ?_⟩; have n0_ := Aside0.mk (Kd.N_lower (Kd.N_mono (ok' := fun k_ => True) ho0 (fun k_ hk_ => trivial)) (below_size (by repeat (first | (with_reducible first | exact HB.out | apply below_alloc | apply pw_below_drewN | apply below_drew1) | exact HB.out)))); have n1_ := Aside0.mk (below_step (by repeat (first | (with_reducible first | exact HB.out | apply below_alloc | apply pw_below_drewN | apply below_drew1) | exact HB.out)) hb); clear HB; have HO221 := n0_; have HB := n1_; clear n0_ n1_; (try clear hb); (try clear hb2); (try clear hk); (try clear hi); (try clear ho0)) | ((with_reducible refine gate_callee (f := 9) rfl ?_); refine goesL_ (some 31) rfl rfl Tryd.func9 (by kernel_rfl) rfl #[.slice A0 l0.length c0, .slice A1 l1.length c1, .slice A2 l2.length c2] rfl (by (try simp only [List.map_toArray, List.map_cons, List.map_nil]); first | done | rfl | (simp only [List.length_drop, List.length_take]; rfl)) ?_; (with_reducible refine (stylusref52_Pieces.calls kj3 (fun k_ => k_ < w.heap.size) _ _ l0 (fun k_ => k_ < w.heap.size) _ _ l1 (fun k_ => k_ < w.heap.size) _ _ l2 t222 _ ?side1 ?side2 ?side3 A14.out).mono ?_); (case side1 => exact Kd.V_mk HC0.out (Kd.F_below (Kd.C_F Kd.heap_string HR0.out) (by repeat (first | (with_reducible first | exact HB.out | apply below_alloc | apply pw_below_drewN | apply below_drew1) | exact HB.out)))); (case side2 => exact Kd.V_mk HC1.out (Kd.F_below (Kd.C_F Kd.heap_string HR1.out) (by repeat (first | (with_reducible first | exact HB.out | apply below_alloc | apply pw_below_drewN | apply below_drew1) | exact HB.out)))); (case side3 => exact Kd.V_mk HC2.out (Kd.F_below (Kd.C_F Kd.heap_string HR2.out) (by repeat (first | (with_reducible first | exact HB.out | apply below_alloc | apply pw_below_drewN | apply below_drew1) | exact HB.out)))); rintro e w17 ⟨v223, rfl, ho0, hb⟩; refine ⟨_, rfl, ?_⟩; have n0_ := Aside0.mk (Kd.N_elder' (by (with_reducible repeat (first | apply Kd.N_alloc | apply Kd.N_drewN | apply Kd.N_drew)); exact HO221.out) (Kd.N_base ho0) hb); have n1_ := Aside0.mk (Kd.N_lower (Kd.N_mono (ok' := fun k_ => some k_ ≠ (v220 : Value).ownBlock) ho0 (fun k_ hk_ => Or.elim hk_ (fun hs_ => Or.elim hs_ (fun hs_ => fun e_ => Nat.not_le.2 hs_ (Kd.N_base HO221.out k_ e_.symm)) (fun hs_ => Or.elim hs_ (fun hs_ => fun e_ => Nat.not_le.2 hs_ (Kd.N_base HO221.out k_ e_.symm)) (fun hs_ => fun e_ => Nat.not_le.2 hs_ (Kd.N_base HO221.out k_ e_.symm)))) (fun hn_ => (Kd.fresh' (Kd.N_lt (by (with_reducible repeat (first | apply Kd.N_alloc | apply Kd.N_drewN | apply Kd.N_drew)); exact HO221.out)) k_ hn_)))) (below_size (by repeat (first | (with_reducible first | exact HB.out | apply below_alloc | apply pw_below_drewN | apply below_drew1) | exact HB.out)))); have n2_ := Aside0.mk (below_step (by repeat (first | (with_reducible first | exact HB.out | apply below_alloc | apply pw_below_drewN | apply below_drew1) | exact HB.out)) hb); clear HO221; clear HB; have HO221 := n0_; have HO224 := n1_; have HB := n2_; clear n0_ n1_ n2_; (try clear hb); (try clear hb2); (try clear hk); (try clear hi); (try clear ho0); obtain ⟨Ao18, co18, eo18⟩ := Kd.N_slice HO221.out; subst eo18; obtain ⟨Ao19, co19, eo19⟩ := Kd.N_slice HO224.out; subst eo19))
     go_loopg [9] kj3 (fun kq v9 w' => ∃ (x9_2 : Int), v9 = .int .i64 x9_2 ∧ Aside0 (styluslaw52_MergePieces.l0 kq t219 t222 x9_2 = some r) ∧ Aside0 (kq ≤ kj3) ∧ Aside0 (Kd.N k30 30 w' w.heap.size (fun k_ => some k_ ≠ ((.slice Ao19 t222.length co19) : Value).ownBlock) (.slice Ao18 t219.length co18) t219) ∧ Aside0 (Kd.N k31 31 w' w.heap.size (fun k_ => some k_ ≠ ((.slice Ao18 t219.length co18) : Value).ownBlock) (.slice Ao19 t222.length co19) t222) ∧ Aside0 (Below w.heap.size w w'))
     case atStart => exact ⟨(0), (by first | rfl | (simp; done) | (simp [*]; done)), H', ⟨Nat.le_refl _⟩, ⟨by (with_reducible repeat (first | apply Kd.N_alloc | apply Kd.N_drewN | apply Kd.N_drew)); exact Kd.N_mono HO221.out (fun _ hk => hk.2)⟩, ⟨by (with_reducible repeat (first | apply Kd.N_alloc | apply Kd.N_drewN | apply Kd.N_drew)); exact HO224.out⟩, ⟨by repeat (first | (with_reducible first | exact HB.out | apply below_alloc | apply pw_below_drewN | apply below_drew1) | exact HB.out)⟩⟩
     case round =>
      clear H'
      try clear c1
      try clear c2
      try clear p2
      try clear c3
      try clear c6
      try clear c7
      try clear c8
      try clear c9
      try clear c10
      try clear c15
      try clear c15b0
      try clear c15b1
      try clear c15b2
      try clear p2
      obtain ⟨x9_2, rfl, HA, HK2, HO_7, HO_8, HB⟩ := hrel
      cases gk with
      | zero => exact absurd HA.out (by simp [styluslaw52_MergePieces.l0])
      | succ k2 =>
       have H := HA.out
       clear HA
       simp only [styluslaw52_MergePieces.l0] at H
       by_cases c20 : x9_2 < (t219.length : Int)
       ·rw [if_pos c20] at H
        have c20b0 : decide (x9_2 < (t219.length : Int)) = true := decide_eq_true c20
        clear c20
        by_cases c21 : 0 ≤ x9_2
        ·rw [if_pos c21] at H
         have c21b0 : decide (0 ≤ x9_2) = true := decide_eq_true c21
         clear c21
         by_cases c22 : x9_2 < (t222.length : Int)
         ·rw [if_pos c22] at H
          have c22b0 : decide (x9_2 < (t222.length : Int)) = true := decide_eq_true c22
          clear c22
          by_cases c23 : (((rd_T30 t219 x9_2).f3) != ((rd_T31 t222 x9_2).f3)) = true
          ·rw [if_pos c23] at H
           have c23b0 : (((rd_T30 t219 x9_2).f3) != ((rd_T31 t222 x9_2).f3)) = true := c23
           (try (have c23b1 : decide (((rd_T30 t219 x9_2).f3) = ((rd_T31 t222 x9_2).f3)) = false := by simpa using c23))
           (try (have c23b2 : (((rd_T30 t219 x9_2).f3) == ((rd_T31 t222 x9_2).f3)) = false := by simpa using c23))
           (try (have c23b3 : ¬ (((rd_T30 t219 x9_2).f3) = ((rd_T31 t222 x9_2).f3)) := by simpa using c23))
           clear c23
           exact absurd H (by simp)
          ·rw [if_neg c23] at H
           have c23b0 : (((rd_T30 t219 x9_2).f3) != ((rd_T31 t222 x9_2).f3)) = false := by simpa using c23
           (try (have c23b1 : decide (((rd_T30 t219 x9_2).f3) = ((rd_T31 t222 x9_2).f3)) = true := by simpa using c23))
           (try (have c23b2 : (((rd_T30 t219 x9_2).f3) == ((rd_T31 t222 x9_2).f3)) = true := by simpa using c23))
           clear c23
           replace H := Option.bind_eq_some_iff.mp H
           obtain ⟨t230, A240, H⟩ := H
           replace H : (if t230 = true then ((stylusref51_Texts.f k2 ((rd_T30 t219 x9_2).f1) ((rd_T31 t222 x9_2).f1)).bind fun t233 => (if t233 = true then ((stylusref51_Texts.f k2 ((rd_T30 t219 x9_2).f2) ((rd_T31 t222 x9_2).f2)).bind fun t236 => (if t236 = true then (styluslaw52_MergePieces.l0 k2 t219 t222 (wrap64 (x9_2 + 1))) else (none))) else (none))) else (none)) = some r := H
           have A24 := Aside0.mk A240
           clear A240
           by_cases c25 : t230 = true
           ·subst c25
            have H1 : ((stylusref51_Texts.f k2 ((rd_T30 t219 x9_2).f1) ((rd_T31 t222 x9_2).f1)).bind fun t233 => (if t233 = true then ((stylusref51_Texts.f k2 ((rd_T30 t219 x9_2).f2) ((rd_T31 t222 x9_2).f2)).bind fun t236 => (if t236 = true then (styluslaw52_MergePieces.l0 k2 t219 t222 (wrap64 (x9_2 + 1))) else (none))) else (none))) = some r := by rw [if_pos rfl] at H; exact H
            clear H
            have H := H1
            clear H1
            replace H := Option.bind_eq_some_iff.mp H
            obtain ⟨t233, A260, H⟩ := H
            replace H : (if t233 = true then ((stylusref51_Texts.f k2 ((rd_T30 t219 x9_2).f2) ((rd_T31 t222 x9_2).f2)).bind fun t236 => (if t236 = true then (styluslaw52_MergePieces.l0 k2 t219 t222 (wrap64 (x9_2 + 1))) else (none))) else (none)) = some r := H
            have A26 := Aside0.mk A260
            clear A260
            by_cases c27 : t233 = true
            ·subst c27
             have H1 : ((stylusref51_Texts.f k2 ((rd_T30 t219 x9_2).f2) ((rd_T31 t222 x9_2).f2)).bind fun t236 => (if t236 = true then (styluslaw52_MergePieces.l0 k2 t219 t222 (wrap64 (x9_2 + 1))) else (none))) = some r := by rw [if_pos rfl] at H; exact H
             clear H
             have H := H1
             clear H1
             replace H := Option.bind_eq_some_iff.mp H
             obtain ⟨t236, A280, H⟩ := H
             replace H : (if t236 = true then (styluslaw52_MergePieces.l0 k2 t219 t222 (wrap64 (x9_2 + 1))) else (none)) = some r := H
             have A28 := Aside0.mk A280
             clear A280
             by_cases c29 : t236 = true
             ·subst c29
              have H1 : (styluslaw52_MergePieces.l0 k2 t219 t222 (wrap64 (x9_2 + 1))) = some r := by rw [if_pos rfl] at H; exact H
              clear H
              have H := H1
              clear H1
              have H' := Aside0.mk H
              clear H
              try go_wp2
              have n0_ := Aside0.mk (Kd.N_drew HO_7.out)
              have n1_ := Aside0.mk (Kd.N_drew HO_8.out)
              have n2_ := Aside0.mk (below_drew1 HB.out)
              clear HO_7
              clear HO_8
              clear HB
              have HO_7 := n0_
              have HO_8 := n1_
              have HB := n2_
              clear n0_ n1_ n2_
              have p226 : 0 ≤ (x9_2 : Int) := of_decide_eq_true (by first | (with_reducible assumption) | assumption)
              have q226 : x9_2 < (t219.length : Int) := of_decide_eq_true (by first | (with_reducible assumption) | assumption)
              obtain ⟨ad226, A226_0, c226_0, A226_1, c226_1, A226_2, c226_2, e226, hx226_0, hx226_1, hx226_2, hx226_3, hl226_0, hi226_0, hl226_1, hi226_1, hl226_2, hi226_2⟩ := at_T30 (Kd.N_reads' HO_7.out).2.2 x9_2 p226 q226
              cases e226
              obtain ⟨ce226, hce226, hMe226, hcc226⟩ := Kd.N_get HO_7.out z30 x9_2 p226 (by first | exact q226 | exact of_decide_eq_true (by first | (with_reducible assumption) | assumption) | (have e_ := (Kd.N_reads' HO_7.out).1; omega))
              obtain ⟨ua226_0, uc226_0, ua226_1, uc226_1, ua226_2, uc226_2, rfl, ul226_0, ge226_0, ul226_1, ge226_1, ul226_2, ge226_2⟩ := k30_openF hMe226
              have hv226_0 := hcc226 0 _ rfl
              rw [Nat.add_zero] at hv226_0
              replace hv226_0 := Option.some.inj (hv226_0.symm.trans hx226_0)
              injection hv226_0 with hva_ hvn_ hvc_
              rw [hva_] at ge226_0
              rw [hvc_] at ul226_0
              have HL226_0 := Aside0.mk (show Kd.V Kd.string 9 _ w.heap.size _ _ ((rd_T30 t219 x9_2).f0) from Kd.V_mk ul226_0 ge226_0)
              clear hva_ hvn_ hvc_ ge226_0 ul226_0
              have hv226_1 := hcc226 1 _ rfl
              rw [add_field _ _ 1 (by omega)] at hv226_1
              replace hv226_1 := Option.some.inj (hv226_1.symm.trans hx226_1)
              injection hv226_1 with hva_ hvn_ hvc_
              rw [hva_] at ge226_1
              rw [hvc_] at ul226_1
              have HL226_1 := Aside0.mk (show Kd.V Kd.string 9 _ w.heap.size _ _ ((rd_T30 t219 x9_2).f1) from Kd.V_mk ul226_1 ge226_1)
              clear hva_ hvn_ hvc_ ge226_1 ul226_1
              have hv226_2 := hcc226 2 _ rfl
              rw [add_field _ _ 2 (by omega)] at hv226_2
              replace hv226_2 := Option.some.inj (hv226_2.symm.trans hx226_2)
              injection hv226_2 with hva_ hvn_ hvc_
              rw [hva_] at ge226_2
              rw [hvc_] at ul226_2
              have HL226_2 := Aside0.mk (show Kd.V Kd.string 9 _ w.heap.size _ _ ((rd_T30 t219 x9_2).f2) from Kd.V_mk ul226_2 ge226_2)
              clear hva_ hvn_ hvc_ ge226_2 ul226_2
              clear hcc226 hce226
              have HR226_0 := Aside0.mk hi226_0
              have HC226_0 := Aside0.mk hl226_0
              clear hi226_0 hl226_0
              have HR226_1 := Aside0.mk hi226_1
              have HC226_1 := Aside0.mk hl226_1
              clear hi226_1 hl226_1
              have HR226_2 := Aside0.mk hi226_2
              have HC226_2 := Aside0.mk hl226_2
              clear hi226_2 hl226_2
              replace p226 := eq_true p226
              replace q226 := eq_true q226
              have p227 : 0 ≤ (x9_2 : Int) := of_decide_eq_true (by first | (with_reducible assumption) | assumption)
              have q227 : x9_2 < (t222.length : Int) := of_decide_eq_true (by first | (with_reducible assumption) | assumption)
              obtain ⟨ad227, A227_0, c227_0, A227_1, c227_1, A227_2, c227_2, e227, hx227_0, hx227_1, hx227_2, hx227_3, hl227_0, hi227_0, hl227_1, hi227_1, hl227_2, hi227_2⟩ := at_T31 (Kd.N_reads' HO_8.out).2.2 x9_2 p227 q227
              cases e227
              obtain ⟨ce227, hce227, hMe227, hcc227⟩ := Kd.N_get HO_8.out z31 x9_2 p227 (by first | exact q227 | exact of_decide_eq_true (by first | (with_reducible assumption) | assumption) | (have e_ := (Kd.N_reads' HO_8.out).1; omega))
              obtain ⟨ua227_0, uc227_0, ua227_1, uc227_1, ua227_2, uc227_2, rfl, ul227_0, ge227_0, ul227_1, ge227_1, ul227_2, ge227_2⟩ := k31_openF hMe227
              have hv227_0 := hcc227 0 _ rfl
              rw [Nat.add_zero] at hv227_0
              replace hv227_0 := Option.some.inj (hv227_0.symm.trans hx227_0)
              injection hv227_0 with hva_ hvn_ hvc_
              rw [hva_] at ge227_0
              rw [hvc_] at ul227_0
              have HL227_0 := Aside0.mk (show Kd.V Kd.string 9 _ w.heap.size _ _ ((rd_T31 t222 x9_2).f0) from Kd.V_mk ul227_0 ge227_0)
              clear hva_ hvn_ hvc_ ge227_0 ul227_0
              have hv227_1 := hcc227 1 _ rfl
              rw [add_field _ _ 1 (by omega)] at hv227_1
              replace hv227_1 := Option.some.inj (hv227_1.symm.trans hx227_1)
              injection hv227_1 with hva_ hvn_ hvc_
              rw [hva_] at ge227_1
              rw [hvc_] at ul227_1
              have HL227_1 := Aside0.mk (show Kd.V Kd.string 9 _ w.heap.size _ _ ((rd_T31 t222 x9_2).f1) from Kd.V_mk ul227_1 ge227_1)
              clear hva_ hvn_ hvc_ ge227_1 ul227_1
              have hv227_2 := hcc227 2 _ rfl
              rw [add_field _ _ 2 (by omega)] at hv227_2
              replace hv227_2 := Option.some.inj (hv227_2.symm.trans hx227_2)
              injection hv227_2 with hva_ hvn_ hvc_
              rw [hva_] at ge227_2
              rw [hvc_] at ul227_2
              have HL227_2 := Aside0.mk (show Kd.V Kd.string 9 _ w.heap.size _ _ ((rd_T31 t222 x9_2).f2) from Kd.V_mk ul227_2 ge227_2)
              clear hva_ hvn_ hvc_ ge227_2 ul227_2
              clear hcc227 hce227
              have HR227_0 := Aside0.mk hi227_0
              have HC227_0 := Aside0.mk hl227_0
              clear hi227_0 hl227_0
              have HR227_1 := Aside0.mk hi227_1
              have HC227_1 := Aside0.mk hl227_1
              clear hi227_1 hl227_1
              have HR227_2 := Aside0.mk hi227_2
              have HC227_2 := Aside0.mk hl227_2
              clear hi227_2 hl227_2
              replace p227 := eq_true p227
              replace q227 := eq_true q227
              have p228 : 0 ≤ (x9_2 : Int) := of_decide_eq_true (by first | (with_reducible assumption) | assumption)
              have q228 : x9_2 < (t219.length : Int) := of_decide_eq_true (by first | (with_reducible assumption) | assumption)
              obtain ⟨ad228, A228_0, c228_0, A228_1, c228_1, A228_2, c228_2, e228, hx228_0, hx228_1, hx228_2, hx228_3, hl228_0, hi228_0, hl228_1, hi228_1, hl228_2, hi228_2⟩ := at_T30 (Kd.N_reads' HO_7.out).2.2 x9_2 p228 q228
              obtain rfl : ad226 = ad228 := (by injection e228)
              obtain ⟨ce228, hce228, hMe228, hcc228⟩ := Kd.N_get HO_7.out z30 x9_2 p228 (by first | exact q228 | exact of_decide_eq_true (by first | (with_reducible assumption) | assumption) | (have e_ := (Kd.N_reads' HO_7.out).1; omega))
              obtain ⟨ua228_0, uc228_0, ua228_1, uc228_1, ua228_2, uc228_2, rfl, ul228_0, ge228_0, ul228_1, ge228_1, ul228_2, ge228_2⟩ := k30_openF hMe228
              have hv228_0 := hcc228 0 _ rfl
              rw [Nat.add_zero] at hv228_0
              replace hv228_0 := Option.some.inj (hv228_0.symm.trans hx228_0)
              injection hv228_0 with hva_ hvn_ hvc_
              rw [hva_] at ge228_0
              rw [hvc_] at ul228_0
              have HL228_0 := Aside0.mk (show Kd.V Kd.string 9 _ w.heap.size _ _ ((rd_T30 t219 x9_2).f0) from Kd.V_mk ul228_0 ge228_0)
              clear hva_ hvn_ hvc_ ge228_0 ul228_0
              have hv228_1 := hcc228 1 _ rfl
              rw [add_field _ _ 1 (by omega)] at hv228_1
              replace hv228_1 := Option.some.inj (hv228_1.symm.trans hx228_1)
              injection hv228_1 with hva_ hvn_ hvc_
              rw [hva_] at ge228_1
              rw [hvc_] at ul228_1
              have HL228_1 := Aside0.mk (show Kd.V Kd.string 9 _ w.heap.size _ _ ((rd_T30 t219 x9_2).f1) from Kd.V_mk ul228_1 ge228_1)
              clear hva_ hvn_ hvc_ ge228_1 ul228_1
              have hv228_2 := hcc228 2 _ rfl
              rw [add_field _ _ 2 (by omega)] at hv228_2
              replace hv228_2 := Option.some.inj (hv228_2.symm.trans hx228_2)
              injection hv228_2 with hva_ hvn_ hvc_
              rw [hva_] at ge228_2
              rw [hvc_] at ul228_2
              have HL228_2 := Aside0.mk (show Kd.V Kd.string 9 _ w.heap.size _ _ ((rd_T30 t219 x9_2).f2) from Kd.V_mk ul228_2 ge228_2)
              clear hva_ hvn_ hvc_ ge228_2 ul228_2
              clear hcc228 hce228
              have HR228_0 := Aside0.mk hi228_0
              have HC228_0 := Aside0.mk hl228_0
              clear hi228_0 hl228_0
              have HR228_1 := Aside0.mk hi228_1
              have HC228_1 := Aside0.mk hl228_1
              clear hi228_1 hl228_1
              have HR228_2 := Aside0.mk hi228_2
              have HC228_2 := Aside0.mk hl228_2
              clear hi228_2 hl228_2
              replace p228 := eq_true p228
              replace q228 := eq_true q228
              have ea_ := Option.some.inj (hx226_0.symm.trans hx228_0)
              injection ea_ with ea_ en_ ec_
              subst ea_
              subst ec_
              clear en_
              have ea_ := Option.some.inj (hx226_1.symm.trans hx228_1)
              injection ea_ with ea_ en_ ec_
              subst ea_
              subst ec_
              clear en_
              have ea_ := Option.some.inj (hx226_2.symm.trans hx228_2)
              injection ea_ with ea_ en_ ec_
              subst ea_
              subst ec_
              clear en_
              have p229 : 0 ≤ (x9_2 : Int) := of_decide_eq_true (by first | (with_reducible assumption) | assumption)
              have q229 : x9_2 < (t222.length : Int) := of_decide_eq_true (by first | (with_reducible assumption) | assumption)
              obtain ⟨ad229, A229_0, c229_0, A229_1, c229_1, A229_2, c229_2, e229, hx229_0, hx229_1, hx229_2, hx229_3, hl229_0, hi229_0, hl229_1, hi229_1, hl229_2, hi229_2⟩ := at_T31 (Kd.N_reads' HO_8.out).2.2 x9_2 p229 q229
              obtain rfl : ad227 = ad229 := (by injection e229)
              obtain ⟨ce229, hce229, hMe229, hcc229⟩ := Kd.N_get HO_8.out z31 x9_2 p229 (by first | exact q229 | exact of_decide_eq_true (by first | (with_reducible assumption) | assumption) | (have e_ := (Kd.N_reads' HO_8.out).1; omega))
              obtain ⟨ua229_0, uc229_0, ua229_1, uc229_1, ua229_2, uc229_2, rfl, ul229_0, ge229_0, ul229_1, ge229_1, ul229_2, ge229_2⟩ := k31_openF hMe229
              have hv229_0 := hcc229 0 _ rfl
              rw [Nat.add_zero] at hv229_0
              replace hv229_0 := Option.some.inj (hv229_0.symm.trans hx229_0)
              injection hv229_0 with hva_ hvn_ hvc_
              rw [hva_] at ge229_0
              rw [hvc_] at ul229_0
              have HL229_0 := Aside0.mk (show Kd.V Kd.string 9 _ w.heap.size _ _ ((rd_T31 t222 x9_2).f0) from Kd.V_mk ul229_0 ge229_0)
              clear hva_ hvn_ hvc_ ge229_0 ul229_0
              have hv229_1 := hcc229 1 _ rfl
              rw [add_field _ _ 1 (by omega)] at hv229_1
              replace hv229_1 := Option.some.inj (hv229_1.symm.trans hx229_1)
              injection hv229_1 with hva_ hvn_ hvc_
              rw [hva_] at ge229_1
              rw [hvc_] at ul229_1
              have HL229_1 := Aside0.mk (show Kd.V Kd.string 9 _ w.heap.size _ _ ((rd_T31 t222 x9_2).f1) from Kd.V_mk ul229_1 ge229_1)
              clear hva_ hvn_ hvc_ ge229_1 ul229_1
              have hv229_2 := hcc229 2 _ rfl
              rw [add_field _ _ 2 (by omega)] at hv229_2
              replace hv229_2 := Option.some.inj (hv229_2.symm.trans hx229_2)
              injection hv229_2 with hva_ hvn_ hvc_
              rw [hva_] at ge229_2
              rw [hvc_] at ul229_2
              have HL229_2 := Aside0.mk (show Kd.V Kd.string 9 _ w.heap.size _ _ ((rd_T31 t222 x9_2).f2) from Kd.V_mk ul229_2 ge229_2)
              clear hva_ hvn_ hvc_ ge229_2 ul229_2
              clear hcc229 hce229
              have HR229_0 := Aside0.mk hi229_0
              have HC229_0 := Aside0.mk hl229_0
              clear hi229_0 hl229_0
              have HR229_1 := Aside0.mk hi229_1
              have HC229_1 := Aside0.mk hl229_1
              clear hi229_1 hl229_1
              have HR229_2 := Aside0.mk hi229_2
              have HC229_2 := Aside0.mk hl229_2
              clear hi229_2 hl229_2
              replace p229 := eq_true p229
              replace q229 := eq_true q229
              have ea_ := Option.some.inj (hx227_0.symm.trans hx229_0)
              injection ea_ with ea_ en_ ec_
              subst ea_
              subst ec_
              clear en_
              have ea_ := Option.some.inj (hx227_1.symm.trans hx229_1)
              injection ea_ with ea_ en_ ec_
              subst ea_
              subst ec_
              clear en_
              have ea_ := Option.some.inj (hx227_2.symm.trans hx229_2)
              injection ea_ with ea_ en_ ec_
              subst ea_
              subst ec_
              clear en_
              have p231 : 0 ≤ (x9_2 : Int) := of_decide_eq_true (by first | (with_reducible assumption) | assumption)
              have q231 : x9_2 < (t219.length : Int) := of_decide_eq_true (by first | (with_reducible assumption) | assumption)
              obtain ⟨ad231, A231_0, c231_0, A231_1, c231_1, A231_2, c231_2, e231, hx231_0, hx231_1, hx231_2, hx231_3, hl231_0, hi231_0, hl231_1, hi231_1, hl231_2, hi231_2⟩ := at_T30 (Kd.N_reads' HO_7.out).2.2 x9_2 p231 q231
              obtain rfl : ad226 = ad231 := (by injection e231)
              obtain ⟨ce231, hce231, hMe231, hcc231⟩ := Kd.N_get HO_7.out z30 x9_2 p231 (by first | exact q231 | exact of_decide_eq_true (by first | (with_reducible assumption) | assumption) | (have e_ := (Kd.N_reads' HO_7.out).1; omega))
              obtain ⟨ua231_0, uc231_0, ua231_1, uc231_1, ua231_2, uc231_2, rfl, ul231_0, ge231_0, ul231_1, ge231_1, ul231_2, ge231_2⟩ := k30_openF hMe231
              have hv231_0 := hcc231 0 _ rfl
              rw [Nat.add_zero] at hv231_0
              replace hv231_0 := Option.some.inj (hv231_0.symm.trans hx231_0)
              injection hv231_0 with hva_ hvn_ hvc_
              rw [hva_] at ge231_0
              rw [hvc_] at ul231_0
              have HL231_0 := Aside0.mk (show Kd.V Kd.string 9 _ w.heap.size _ _ ((rd_T30 t219 x9_2).f0) from Kd.V_mk ul231_0 ge231_0)
              clear hva_ hvn_ hvc_ ge231_0 ul231_0
              have hv231_1 := hcc231 1 _ rfl
              rw [add_field _ _ 1 (by omega)] at hv231_1
              replace hv231_1 := Option.some.inj (hv231_1.symm.trans hx231_1)
              injection hv231_1 with hva_ hvn_ hvc_
              rw [hva_] at ge231_1
              rw [hvc_] at ul231_1
              have HL231_1 := Aside0.mk (show Kd.V Kd.string 9 _ w.heap.size _ _ ((rd_T30 t219 x9_2).f1) from Kd.V_mk ul231_1 ge231_1)
              clear hva_ hvn_ hvc_ ge231_1 ul231_1
              have hv231_2 := hcc231 2 _ rfl
              rw [add_field _ _ 2 (by omega)] at hv231_2
              replace hv231_2 := Option.some.inj (hv231_2.symm.trans hx231_2)
              injection hv231_2 with hva_ hvn_ hvc_
              rw [hva_] at ge231_2
              rw [hvc_] at ul231_2
              have HL231_2 := Aside0.mk (show Kd.V Kd.string 9 _ w.heap.size _ _ ((rd_T30 t219 x9_2).f2) from Kd.V_mk ul231_2 ge231_2)
              clear hva_ hvn_ hvc_ ge231_2 ul231_2
              clear hcc231 hce231
              have HR231_0 := Aside0.mk hi231_0
              have HC231_0 := Aside0.mk hl231_0
              clear hi231_0 hl231_0
              have HR231_1 := Aside0.mk hi231_1
              have HC231_1 := Aside0.mk hl231_1
              clear hi231_1 hl231_1
              have HR231_2 := Aside0.mk hi231_2
              have HC231_2 := Aside0.mk hl231_2
              clear hi231_2 hl231_2
              replace p231 := eq_true p231
              replace q231 := eq_true q231
              have ea_ := Option.some.inj (hx226_0.symm.trans hx231_0)
              injection ea_ with ea_ en_ ec_
              subst ea_
              subst ec_
              clear en_
              have ea_ := Option.some.inj (hx226_1.symm.trans hx231_1)
              injection ea_ with ea_ en_ ec_
              subst ea_
              subst ec_
              clear en_
              have ea_ := Option.some.inj (hx226_2.symm.trans hx231_2)
              injection ea_ with ea_ en_ ec_
              subst ea_
              subst ec_
              clear en_
              have p232 : 0 ≤ (x9_2 : Int) := of_decide_eq_true (by first | (with_reducible assumption) | assumption)
              have q232 : x9_2 < (t222.length : Int) := of_decide_eq_true (by first | (with_reducible assumption) | assumption)
              obtain ⟨ad232, A232_0, c232_0, A232_1, c232_1, A232_2, c232_2, e232, hx232_0, hx232_1, hx232_2, hx232_3, hl232_0, hi232_0, hl232_1, hi232_1, hl232_2, hi232_2⟩ := at_T31 (Kd.N_reads' HO_8.out).2.2 x9_2 p232 q232
              obtain rfl : ad227 = ad232 := (by injection e232)
              obtain ⟨ce232, hce232, hMe232, hcc232⟩ := Kd.N_get HO_8.out z31 x9_2 p232 (by first | exact q232 | exact of_decide_eq_true (by first | (with_reducible assumption) | assumption) | (have e_ := (Kd.N_reads' HO_8.out).1; omega))
              obtain ⟨ua232_0, uc232_0, ua232_1, uc232_1, ua232_2, uc232_2, rfl, ul232_0, ge232_0, ul232_1, ge232_1, ul232_2, ge232_2⟩ := k31_openF hMe232
              have hv232_0 := hcc232 0 _ rfl
              rw [Nat.add_zero] at hv232_0
              replace hv232_0 := Option.some.inj (hv232_0.symm.trans hx232_0)
              injection hv232_0 with hva_ hvn_ hvc_
              rw [hva_] at ge232_0
              rw [hvc_] at ul232_0
              have HL232_0 := Aside0.mk (show Kd.V Kd.string 9 _ w.heap.size _ _ ((rd_T31 t222 x9_2).f0) from Kd.V_mk ul232_0 ge232_0)
              clear hva_ hvn_ hvc_ ge232_0 ul232_0
              have hv232_1 := hcc232 1 _ rfl
              rw [add_field _ _ 1 (by omega)] at hv232_1
              replace hv232_1 := Option.some.inj (hv232_1.symm.trans hx232_1)
              injection hv232_1 with hva_ hvn_ hvc_
              rw [hva_] at ge232_1
              rw [hvc_] at ul232_1
              have HL232_1 := Aside0.mk (show Kd.V Kd.string 9 _ w.heap.size _ _ ((rd_T31 t222 x9_2).f1) from Kd.V_mk ul232_1 ge232_1)
              clear hva_ hvn_ hvc_ ge232_1 ul232_1
              have hv232_2 := hcc232 2 _ rfl
              rw [add_field _ _ 2 (by omega)] at hv232_2
              replace hv232_2 := Option.some.inj (hv232_2.symm.trans hx232_2)
              injection hv232_2 with hva_ hvn_ hvc_
              rw [hva_] at ge232_2
              rw [hvc_] at ul232_2
              have HL232_2 := Aside0.mk (show Kd.V Kd.string 9 _ w.heap.size _ _ ((rd_T31 t222 x9_2).f2) from Kd.V_mk ul232_2 ge232_2)
              clear hva_ hvn_ hvc_ ge232_2 ul232_2
              clear hcc232 hce232
              have HR232_0 := Aside0.mk hi232_0
              have HC232_0 := Aside0.mk hl232_0
              clear hi232_0 hl232_0
              have HR232_1 := Aside0.mk hi232_1
              have HC232_1 := Aside0.mk hl232_1
              clear hi232_1 hl232_1
              have HR232_2 := Aside0.mk hi232_2
              have HC232_2 := Aside0.mk hl232_2
              clear hi232_2 hl232_2
              replace p232 := eq_true p232
              replace q232 := eq_true q232
              have ea_ := Option.some.inj (hx227_0.symm.trans hx232_0)
              injection ea_ with ea_ en_ ec_
              subst ea_
              subst ec_
              clear en_
              have ea_ := Option.some.inj (hx227_1.symm.trans hx232_1)
              injection ea_ with ea_ en_ ec_
              subst ea_
              subst ec_
              clear en_
              have ea_ := Option.some.inj (hx227_2.symm.trans hx232_2)
              injection ea_ with ea_ en_ ec_
              subst ea_
              subst ec_
              clear en_
              have p234 : 0 ≤ (x9_2 : Int) := of_decide_eq_true (by first | (with_reducible assumption) | assumption)
              have q234 : x9_2 < (t219.length : Int) := of_decide_eq_true (by first | (with_reducible assumption) | assumption)
              obtain ⟨ad234, A234_0, c234_0, A234_1, c234_1, A234_2, c234_2, e234, hx234_0, hx234_1, hx234_2, hx234_3, hl234_0, hi234_0, hl234_1, hi234_1, hl234_2, hi234_2⟩ := at_T30 (Kd.N_reads' HO_7.out).2.2 x9_2 p234 q234
              obtain rfl : ad226 = ad234 := (by injection e234)
              obtain ⟨ce234, hce234, hMe234, hcc234⟩ := Kd.N_get HO_7.out z30 x9_2 p234 (by first | exact q234 | exact of_decide_eq_true (by first | (with_reducible assumption) | assumption) | (have e_ := (Kd.N_reads' HO_7.out).1; omega))
              obtain ⟨ua234_0, uc234_0, ua234_1, uc234_1, ua234_2, uc234_2, rfl, ul234_0, ge234_0, ul234_1, ge234_1, ul234_2, ge234_2⟩ := k30_openF hMe234
              have hv234_0 := hcc234 0 _ rfl
              rw [Nat.add_zero] at hv234_0
              replace hv234_0 := Option.some.inj (hv234_0.symm.trans hx234_0)
              injection hv234_0 with hva_ hvn_ hvc_
              rw [hva_] at ge234_0
              rw [hvc_] at ul234_0
              have HL234_0 := Aside0.mk (show Kd.V Kd.string 9 _ w.heap.size _ _ ((rd_T30 t219 x9_2).f0) from Kd.V_mk ul234_0 ge234_0)
              clear hva_ hvn_ hvc_ ge234_0 ul234_0
              have hv234_1 := hcc234 1 _ rfl
              rw [add_field _ _ 1 (by omega)] at hv234_1
              replace hv234_1 := Option.some.inj (hv234_1.symm.trans hx234_1)
              injection hv234_1 with hva_ hvn_ hvc_
              rw [hva_] at ge234_1
              rw [hvc_] at ul234_1
              have HL234_1 := Aside0.mk (show Kd.V Kd.string 9 _ w.heap.size _ _ ((rd_T30 t219 x9_2).f1) from Kd.V_mk ul234_1 ge234_1)
              clear hva_ hvn_ hvc_ ge234_1 ul234_1
              have hv234_2 := hcc234 2 _ rfl
              rw [add_field _ _ 2 (by omega)] at hv234_2
              replace hv234_2 := Option.some.inj (hv234_2.symm.trans hx234_2)
              injection hv234_2 with hva_ hvn_ hvc_
              rw [hva_] at ge234_2
              rw [hvc_] at ul234_2
              have HL234_2 := Aside0.mk (show Kd.V Kd.string 9 _ w.heap.size _ _ ((rd_T30 t219 x9_2).f2) from Kd.V_mk ul234_2 ge234_2)
              clear hva_ hvn_ hvc_ ge234_2 ul234_2
              clear hcc234 hce234
              have HR234_0 := Aside0.mk hi234_0
              have HC234_0 := Aside0.mk hl234_0
              clear hi234_0 hl234_0
              have HR234_1 := Aside0.mk hi234_1
              have HC234_1 := Aside0.mk hl234_1
              clear hi234_1 hl234_1
              have HR234_2 := Aside0.mk hi234_2
              have HC234_2 := Aside0.mk hl234_2
              clear hi234_2 hl234_2
              replace p234 := eq_true p234
              replace q234 := eq_true q234
              have ea_ := Option.some.inj (hx226_0.symm.trans hx234_0)
              injection ea_ with ea_ en_ ec_
              subst ea_
              subst ec_
              clear en_
              have ea_ := Option.some.inj (hx226_1.symm.trans hx234_1)
              injection ea_ with ea_ en_ ec_
              subst ea_
              subst ec_
              clear en_
              have ea_ := Option.some.inj (hx226_2.symm.trans hx234_2)
              injection ea_ with ea_ en_ ec_
              subst ea_
              subst ec_
              clear en_
              have p235 : 0 ≤ (x9_2 : Int) := of_decide_eq_true (by first | (with_reducible assumption) | assumption)
              have q235 : x9_2 < (t222.length : Int) := of_decide_eq_true (by first | (with_reducible assumption) | assumption)
              obtain ⟨ad235, A235_0, c235_0, A235_1, c235_1, A235_2, c235_2, e235, hx235_0, hx235_1, hx235_2, hx235_3, hl235_0, hi235_0, hl235_1, hi235_1, hl235_2, hi235_2⟩ := at_T31 (Kd.N_reads' HO_8.out).2.2 x9_2 p235 q235
              obtain rfl : ad227 = ad235 := (by injection e235)
              obtain ⟨ce235, hce235, hMe235, hcc235⟩ := Kd.N_get HO_8.out z31 x9_2 p235 (by first | exact q235 | exact of_decide_eq_true (by first | (with_reducible assumption) | assumption) | (have e_ := (Kd.N_reads' HO_8.out).1; omega))
              obtain ⟨ua235_0, uc235_0, ua235_1, uc235_1, ua235_2, uc235_2, rfl, ul235_0, ge235_0, ul235_1, ge235_1, ul235_2, ge235_2⟩ := k31_openF hMe235
              have hv235_0 := hcc235 0 _ rfl
              rw [Nat.add_zero] at hv235_0
              replace hv235_0 := Option.some.inj (hv235_0.symm.trans hx235_0)
              injection hv235_0 with hva_ hvn_ hvc_
              rw [hva_] at ge235_0
              rw [hvc_] at ul235_0
              have HL235_0 := Aside0.mk (show Kd.V Kd.string 9 _ w.heap.size _ _ ((rd_T31 t222 x9_2).f0) from Kd.V_mk ul235_0 ge235_0)
              clear hva_ hvn_ hvc_ ge235_0 ul235_0
              have hv235_1 := hcc235 1 _ rfl
              rw [add_field _ _ 1 (by omega)] at hv235_1
              replace hv235_1 := Option.some.inj (hv235_1.symm.trans hx235_1)
              injection hv235_1 with hva_ hvn_ hvc_
              rw [hva_] at ge235_1
              rw [hvc_] at ul235_1
              have HL235_1 := Aside0.mk (show Kd.V Kd.string 9 _ w.heap.size _ _ ((rd_T31 t222 x9_2).f1) from Kd.V_mk ul235_1 ge235_1)
              clear hva_ hvn_ hvc_ ge235_1 ul235_1
              have hv235_2 := hcc235 2 _ rfl
              rw [add_field _ _ 2 (by omega)] at hv235_2
              replace hv235_2 := Option.some.inj (hv235_2.symm.trans hx235_2)
              injection hv235_2 with hva_ hvn_ hvc_
              rw [hva_] at ge235_2
              rw [hvc_] at ul235_2
              have HL235_2 := Aside0.mk (show Kd.V Kd.string 9 _ w.heap.size _ _ ((rd_T31 t222 x9_2).f2) from Kd.V_mk ul235_2 ge235_2)
              clear hva_ hvn_ hvc_ ge235_2 ul235_2
              clear hcc235 hce235
              have HR235_0 := Aside0.mk hi235_0
              have HC235_0 := Aside0.mk hl235_0
              clear hi235_0 hl235_0
              have HR235_1 := Aside0.mk hi235_1
              have HC235_1 := Aside0.mk hl235_1
              clear hi235_1 hl235_1
              have HR235_2 := Aside0.mk hi235_2
              have HC235_2 := Aside0.mk hl235_2
              clear hi235_2 hl235_2
              replace p235 := eq_true p235
              replace q235 := eq_true q235
              have ea_ := Option.some.inj (hx227_0.symm.trans hx235_0)
              injection ea_ with ea_ en_ ec_
              subst ea_
              subst ec_
              clear en_
              have ea_ := Option.some.inj (hx227_1.symm.trans hx235_1)
              injection ea_ with ea_ en_ ec_
              subst ea_
              subst ec_
              clear en_
              have ea_ := Option.some.inj (hx227_2.symm.trans hx235_2)
              injection ea_ with ea_ en_ ec_
              subst ea_
              subst ec_
              clear en_
              refine start_ (n := 53) (S := fun w' => w'.cell? (ad226.add ((x9_2).toNat * 4)) = some (.slice A226_0 ((rd_T30 t219 x9_2).f0).length c226_0) ∧ w'.cell? ⟨(ad226.add ((x9_2).toNat * 4)).block, (ad226.add ((x9_2).toNat * 4)).off + 1, none⟩ = some (.slice A226_1 ((rd_T30 t219 x9_2).f1).length c226_1) ∧ w'.cell? ⟨(ad226.add ((x9_2).toNat * 4)).block, (ad226.add ((x9_2).toNat * 4)).off + 2, none⟩ = some (.slice A226_2 ((rd_T30 t219 x9_2).f2).length c226_2) ∧ w'.cell? ⟨(ad226.add ((x9_2).toNat * 4)).block, (ad226.add ((x9_2).toNat * 4)).off + 3, none⟩ = some (.bool ((rd_T30 t219 x9_2).f3)) ∧ w'.cell? (ad227.add ((x9_2).toNat * 4)) = some (.slice A227_0 ((rd_T31 t222 x9_2).f0).length c227_0) ∧ w'.cell? ⟨(ad227.add ((x9_2).toNat * 4)).block, (ad227.add ((x9_2).toNat * 4)).off + 1, none⟩ = some (.slice A227_1 ((rd_T31 t222 x9_2).f1).length c227_1) ∧ w'.cell? ⟨(ad227.add ((x9_2).toNat * 4)).block, (ad227.add ((x9_2).toNat * 4)).off + 2, none⟩ = some (.slice A227_2 ((rd_T31 t222 x9_2).f2).length c227_2) ∧ w'.cell? ⟨(ad227.add ((x9_2).toNat * 4)).block, (ad227.add ((x9_2).toNat * 4)).off + 3, none⟩ = some (.bool ((rd_T31 t222 x9_2).f3)) ∧ w'.cell? (ad226.add ((x9_2).toNat * 4)) = some (.slice A226_0 ((rd_T30 t219 x9_2).f0).length c226_0) ∧ w'.cell? ⟨(ad226.add ((x9_2).toNat * 4)).block, (ad226.add ((x9_2).toNat * 4)).off + 1, none⟩ = some (.slice A226_1 ((rd_T30 t219 x9_2).f1).length c226_1) ∧ w'.cell? ⟨(ad226.add ((x9_2).toNat * 4)).block, (ad226.add ((x9_2).toNat * 4)).off + 2, none⟩ = some (.slice A226_2 ((rd_T30 t219 x9_2).f2).length c226_2) ∧ w'.cell? ⟨(ad226.add ((x9_2).toNat * 4)).block, (ad226.add ((x9_2).toNat * 4)).off + 3, none⟩ = some (.bool ((rd_T30 t219 x9_2).f3)) ∧ w'.cell? (ad227.add ((x9_2).toNat * 4)) = some (.slice A227_0 ((rd_T31 t222 x9_2).f0).length c227_0) ∧ w'.cell? ⟨(ad227.add ((x9_2).toNat * 4)).block, (ad227.add ((x9_2).toNat * 4)).off + 1, none⟩ = some (.slice A227_1 ((rd_T31 t222 x9_2).f1).length c227_1) ∧ w'.cell? ⟨(ad227.add ((x9_2).toNat * 4)).block, (ad227.add ((x9_2).toNat * 4)).off + 2, none⟩ = some (.slice A227_2 ((rd_T31 t222 x9_2).f2).length c227_2) ∧ w'.cell? ⟨(ad227.add ((x9_2).toNat * 4)).block, (ad227.add ((x9_2).toNat * 4)).off + 3, none⟩ = some (.bool ((rd_T31 t222 x9_2).f3)) ∧ w'.cell? (ad226.add ((x9_2).toNat * 4)) = some (.slice A226_0 ((rd_T30 t219 x9_2).f0).length c226_0) ∧ w'.cell? ⟨(ad226.add ((x9_2).toNat * 4)).block, (ad226.add ((x9_2).toNat * 4)).off + 1, none⟩ = some (.slice A226_1 ((rd_T30 t219 x9_2).f1).length c226_1) ∧ w'.cell? ⟨(ad226.add ((x9_2).toNat * 4)).block, (ad226.add ((x9_2).toNat * 4)).off + 2, none⟩ = some (.slice A226_2 ((rd_T30 t219 x9_2).f2).length c226_2) ∧ w'.cell? ⟨(ad226.add ((x9_2).toNat * 4)).block, (ad226.add ((x9_2).toNat * 4)).off + 3, none⟩ = some (.bool ((rd_T30 t219 x9_2).f3)) ∧ w'.cell? (ad227.add ((x9_2).toNat * 4)) = some (.slice A227_0 ((rd_T31 t222 x9_2).f0).length c227_0) ∧ w'.cell? ⟨(ad227.add ((x9_2).toNat * 4)).block, (ad227.add ((x9_2).toNat * 4)).off + 1, none⟩ = some (.slice A227_1 ((rd_T31 t222 x9_2).f1).length c227_1) ∧ w'.cell? ⟨(ad227.add ((x9_2).toNat * 4)).block, (ad227.add ((x9_2).toNat * 4)).off + 2, none⟩ = some (.slice A227_2 ((rd_T31 t222 x9_2).f2).length c227_2) ∧ w'.cell? ⟨(ad227.add ((x9_2).toNat * 4)).block, (ad227.add ((x9_2).toNat * 4)).off + 3, none⟩ = some (.bool ((rd_T31 t222 x9_2).f3)) ∧ w'.cell? (ad226.add ((x9_2).toNat * 4)) = some (.slice A226_0 ((rd_T30 t219 x9_2).f0).length c226_0) ∧ w'.cell? ⟨(ad226.add ((x9_2).toNat * 4)).block, (ad226.add ((x9_2).toNat * 4)).off + 1, none⟩ = some (.slice A226_1 ((rd_T30 t219 x9_2).f1).length c226_1) ∧ w'.cell? ⟨(ad226.add ((x9_2).toNat * 4)).block, (ad226.add ((x9_2).toNat * 4)).off + 2, none⟩ = some (.slice A226_2 ((rd_T30 t219 x9_2).f2).length c226_2) ∧ w'.cell? ⟨(ad226.add ((x9_2).toNat * 4)).block, (ad226.add ((x9_2).toNat * 4)).off + 3, none⟩ = some (.bool ((rd_T30 t219 x9_2).f3)) ∧ w'.cell? (ad227.add ((x9_2).toNat * 4)) = some (.slice A227_0 ((rd_T31 t222 x9_2).f0).length c227_0) ∧ w'.cell? ⟨(ad227.add ((x9_2).toNat * 4)).block, (ad227.add ((x9_2).toNat * 4)).off + 1, none⟩ = some (.slice A227_1 ((rd_T31 t222 x9_2).f1).length c227_1) ∧ w'.cell? ⟨(ad227.add ((x9_2).toNat * 4)).block, (ad227.add ((x9_2).toNat * 4)).off + 2, none⟩ = some (.slice A227_2 ((rd_T31 t222 x9_2).f2).length c227_2) ∧ w'.cell? ⟨(ad227.add ((x9_2).toNat * 4)).block, (ad227.add ((x9_2).toNat * 4)).off + 3, none⟩ = some (.bool ((rd_T31 t222 x9_2).f3))) (ds := []) #[false, false, false, false, false, false, false, false, false, false, false, false, false, false, false, false, false, false, false, false, false, false, false, false, false, false, false, false, false, false, false, false, false, false, false, false, false, false, false, false, false, false, false, false, false, false, false, false, false, false, false, false, false] (by kernel_rfl) rfl rfl ⟨hx226_0, hx226_1, hx226_2, hx226_3, hx227_0, hx227_1, hx227_2, hx227_3, hx228_0, hx228_1, hx228_2, hx228_3, hx229_0, hx229_1, hx229_2, hx229_3, hx231_0, hx231_1, hx231_2, hx231_3, hx232_0, hx232_1, hx232_2, hx232_3, hx234_0, hx234_1, hx234_2, hx234_3, hx235_0, hx235_1, hx235_2, hx235_3⟩ (fun hHeld => ?_); refine with_tabW styluslaw52_MergePieces.tab9 styluslaw52_MergePieces.bits9 (fun HT_ HW_ => ?_)
              generalize wr.drew = w30 at HO_7 HO_8 HB HL226_0 HL226_1 HL226_2 HL227_0 HL227_1 HL227_2 HL228_0 HL228_1 HL228_2 HL229_0 HL229_1 HL229_2 HL231_0 HL231_1 HL231_2 HL232_0 HL232_1 HL232_2 HL234_0 HL234_1 HL234_2 HL235_0 HL235_1 HL235_2 HR226_0 HR226_1 HR226_2 HR227_0 HR227_1 HR227_2 HR228_0 HR228_1 HR228_2 HR229_0 HR229_1 HR229_2 HR231_0 HR231_1 HR231_2 HR232_0 HR232_1 HR232_2 HR234_0 HR234_1 HR234_2 HR235_0 HR235_1 HR235_2 hx226_0 hx226_1 hx226_2 hx226_3 hx227_0 hx227_1 hx227_2 hx227_3 hx228_0 hx228_1 hx228_2 hx228_3 hx229_0 hx229_1 hx229_2 hx229_3 hx231_0 hx231_1 hx231_2 hx231_3 hx232_0 hx232_1 hx232_2 hx232_3 hx234_0 hx234_1 hx234_2 hx234_3 hx235_0 hx235_1 hx235_2 hx235_3 hHeld ⊢
              refine pure_ (i := 0) (N := some 43) (v := ?_) (a' := ?_) #[true, false, false, false, false, false, false, false, false, false, false, false, false, false, false, false, false, false, false, false, false, false, false, false, false, false, false, false, false, false, false, false, false, false, false, false, false, false, false, false, false, false, false, false, false, false, false, false, false, false, false, false, false] rfl rfl (any_of HT_.out (by kernel_rfl)) (fun _ _ _ h => h) (Or.inl ⟨by rfl, ?_⟩) ?_ ?_
              rotate_left
              ·intro w'
               go_simp
               with_reducible rfl
              rotate_left
              ·simp only [Act.put, List.setIfInBounds_toArray, List.set_cons_zero, List.set_cons_succ, i64_w, i32_w]
               rfl
              refine pure_ (i := 1) (N := some 44) (v := ?_) (a' := ?_) #[true, true, false, false, false, false, false, false, false, false, false, false, false, false, false, false, false, false, false, false, false, false, false, false, false, false, false, false, false, false, false, false, false, false, false, false, false, false, false, false, false, false, false, false, false, false, false, false, false, false, false, false, false] rfl rfl (any_of HT_.out (by kernel_rfl)) (fun _ _ _ h => h) (Or.inl ⟨by rfl, ?_⟩) ?_ ?_
              rotate_left
              ·intro w'
               go_simp
               with_reducible rfl
              rotate_left
              ·simp only [Act.put, List.setIfInBounds_toArray, List.set_cons_zero, List.set_cons_succ, i64_w, i32_w]
               rfl
              refine pure_ (i := 2) (N := some 45) (v := ?_) (a' := ?_) #[true, true, true, false, false, false, false, false, false, false, false, false, false, false, false, false, false, false, false, false, false, false, false, false, false, false, false, false, false, false, false, false, false, false, false, false, false, false, false, false, false, false, false, false, false, false, false, false, false, false, false, false, false] rfl rfl (any_of HT_.out (by kernel_rfl)) (fun _ _ _ h => h) (Or.inl ⟨by rfl, ?_⟩) ?_ ?_
              rotate_left
              ·intro w'
               go_simp
               with_reducible rfl
              rotate_left
              ·simp only [Act.put, List.setIfInBounds_toArray, List.set_cons_zero, List.set_cons_succ, i64_w, i32_w]
               rfl
              refine pure_ (i := 3) (N := some 46) (v := ?_) (a' := ?_) #[true, true, true, true, false, false, false, false, false, false, false, false, false, false, false, false, false, false, false, false, false, false, false, false, false, false, false, false, false, false, false, false, false, false, false, false, false, false, false, false, false, false, false, false, false, false, false, false, false, false, false, false, false] rfl rfl (any_of HT_.out (by kernel_rfl)) (fun _ _ _ h => h) (Or.inl ⟨by rfl, ?_⟩) ?_ ?_
              rotate_left
              ·intro w'
               go_simp
               with_reducible rfl
              rotate_left
              ·simp only [Act.put, List.setIfInBounds_toArray, List.set_cons_zero, List.set_cons_succ, i64_w, i32_w]
               rfl
              refine pure_ (i := 5) (N := some 48) (v := ?_) (a' := ?_) #[true, true, true, true, false, true, false, false, false, false, false, false, false, false, false, false, false, false, false, false, false, false, false, false, false, false, false, false, false, false, false, false, false, false, false, false, false, false, false, false, false, false, false, false, false, false, false, false, false, false, false, false, false] rfl rfl (any_of HT_.out (by kernel_rfl)) (fun _ _ _ h => h) (Or.inl ⟨by rfl, ?_⟩) ?_ ?_
              rotate_left
              ·intro w'
               go_simp
               with_reducible rfl
              rotate_left
              ·simp only [Act.put, List.setIfInBounds_toArray, List.set_cons_zero, List.set_cons_succ, i64_w, i32_w]
               rfl
              refine pure_ (i := 6) (N := some 49) (v := ?_) (a' := ?_) #[true, true, true, true, false, true, true, false, false, false, false, false, false, false, false, false, false, false, false, false, false, false, false, false, false, false, false, false, false, false, false, false, false, false, false, false, false, false, false, false, false, false, false, false, false, false, false, false, false, false, false, false, false] rfl rfl (any_of HT_.out (by kernel_rfl)) (fun _ _ _ h => h) (Or.inl ⟨by rfl, ?_⟩) ?_ ?_
              rotate_left
              ·intro w'
               go_simp
               with_reducible rfl
              rotate_left
              ·simp only [Act.put, List.setIfInBounds_toArray, List.set_cons_zero, List.set_cons_succ, i64_w, i32_w]
               rfl
              refine pure_ (i := 7) (N := some 50) (v := ?_) (a' := ?_) #[true, true, true, true, false, true, true, true, false, false, false, false, false, false, false, false, false, false, false, false, false, false, false, false, false, false, false, false, false, false, false, false, false, false, false, false, false, false, false, false, false, false, false, false, false, false, false, false, false, false, false, false, false] rfl rfl (any_of HT_.out (by kernel_rfl)) (fun _ _ _ h => h) (Or.inl ⟨by rfl, ?_⟩) ?_ ?_
              rotate_left
              ·intro w'
               go_simp
               with_reducible rfl
              rotate_left
              ·simp only [Act.put, List.setIfInBounds_toArray, List.set_cons_zero, List.set_cons_succ, i64_w, i32_w]
               rfl
              refine pure_ (i := 8) (N := some 51) (v := ?_) (a' := ?_) #[true, true, true, true, false, true, true, true, true, false, false, false, false, false, false, false, false, false, false, false, false, false, false, false, false, false, false, false, false, false, false, false, false, false, false, false, false, false, false, false, false, false, false, false, false, false, false, false, false, false, false, false, false] rfl rfl (any_of HT_.out (by kernel_rfl)) (fun _ _ _ h => h) (Or.inl ⟨by rfl, ?_⟩) ?_ ?_
              rotate_left
              ·intro w'
               go_simp
               with_reducible rfl
              rotate_left
              ·simp only [Act.put, List.setIfInBounds_toArray, List.set_cons_zero, List.set_cons_succ, i64_w, i32_w]
               rfl
              refine take_ (i := 4) (N := some 47) (v := ?_) (a' := ?_) #[true, true, true, true, true, true, true, true, true, false, false, false, false, false, false, false, false, false, false, false, false, false, false, false, false, false, false, false, false, false, false, false, false, false, false, false, false, false, false, false, false, false, false, false, false, false, false, false, false, false, false, false, false] rfl rfl (take_ofW HT_.out HW_.out (by kernel_rfl)) (fun _ _ _ h => h) (Or.inl ⟨by rfl, ?_⟩) hHeld ?_ ?_
              rotate_left
              ·rintro w' ⟨s0, s1, s2, s3, s4, s5, s6, s7, s8, s9, s10, s11, s12, s13, s14, s15, s16, s17, s18, s19, s20, s21, s22, s23, s24, s25, s26, s27, s28, s29, s30, s31⟩
               go_simp
               with_reducible rfl
              rotate_left
              ·simp only [Act.put, List.setIfInBounds_toArray, List.set_cons_zero, List.set_cons_succ, i64_w, i32_w]
               rfl
              refine take_ (i := 9) (N := some 52) (v := ?_) (a' := ?_) #[true, true, true, true, true, true, true, true, true, true, false, false, false, false, false, false, false, false, false, false, false, false, false, false, false, false, false, false, false, false, false, false, false, false, false, false, false, false, false, false, false, false, false, false, false, false, false, false, false, false, false, false, false] rfl rfl (take_ofW HT_.out HW_.out (by kernel_rfl)) (fun _ _ _ h => h) (Or.inl ⟨by rfl, ?_⟩) hHeld ?_ ?_
              rotate_left
              ·rintro w' ⟨s0, s1, s2, s3, s4, s5, s6, s7, s8, s9, s10, s11, s12, s13, s14, s15, s16, s17, s18, s19, s20, s21, s22, s23, s24, s25, s26, s27, s28, s29, s30, s31⟩
               go_simp
               with_reducible rfl
              rotate_left
              ·simp only [Act.put, List.setIfInBounds_toArray, List.set_cons_zero, List.set_cons_succ, i64_w, i32_w]
               rfl
              refine pure_ (i := 10) (N := some 53) (v := ?_) (a' := ?_) #[true, true, true, true, true, true, true, true, true, true, true, false, false, false, false, false, false, false, false, false, false, false, false, false, false, false, false, false, false, false, false, false, false, false, false, false, false, false, false, false, false, false, false, false, false, false, false, false, false, false, false, false, false] rfl rfl (any_of HT_.out (by kernel_rfl)) (fun _ _ _ h => h) (Or.inl ⟨by rfl, ?_⟩) ?_ ?_
              rotate_left
              ·intro w'
               go_simp
               with_reducible rfl
              rotate_left
              ·simp only [Act.put, List.setIfInBounds_toArray, List.set_cons_zero, List.set_cons_succ, i64_w, i32_w]
               rfl
              refine pure_ (i := 11) (N := some 54) (v := ?_) (a' := ?_) #[true, true, true, true, true, true, true, true, true, true, true, true, false, false, false, false, false, false, false, false, false, false, false, false, false, false, false, false, false, false, false, false, false, false, false, false, false, false, false, false, false, false, false, false, false, false, false, false, false, false, false, false, false] rfl rfl (any_of HT_.out (by kernel_rfl)) (fun _ _ _ h => h) (Or.inl ⟨by rfl, ?_⟩) ?_ ?_
              rotate_left
              ·intro w'
               go_simp
               with_reducible rfl
              rotate_left
              ·simp only [Act.put, List.setIfInBounds_toArray, List.set_cons_zero, List.set_cons_succ, i64_w, i32_w]
               rfl
              refine pure_ (i := 12) (N := some 55) (v := ?_) (a' := ?_) #[true, true, true, true, true, true, true, true, true, true, true, true, true, false, false, false, false, false, false, false, false, false, false, false, false, false, false, false, false, false, false, false, false, false, false, false, false, false, false, false, false, false, false, false, false, false, false, false, false, false, false, false, false] rfl rfl (any_of HT_.out (by kernel_rfl)) (fun _ _ _ h => h) (Or.inl ⟨by rfl, ?_⟩) ?_ ?_
              rotate_left
              ·intro w'
               go_simp
               with_reducible rfl
              rotate_left
              ·simp only [Act.put, List.setIfInBounds_toArray, List.set_cons_zero, List.set_cons_succ, i64_w, i32_w]
               rfl
              refine pure_ (i := 13) (N := some 56) (v := ?_) (a' := ?_) #[true, true, true, true, true, true, true, true, true, true, true, true, true, true, false, false, false, false, false, false, false, false, false, false, false, false, false, false, false, false, false, false, false, false, false, false, false, false, false, false, false, false, false, false, false, false, false, false, false, false, false, false, false] rfl rfl (any_of HT_.out (by kernel_rfl)) (fun _ _ _ h => h) (Or.inl ⟨by rfl, ?_⟩) ?_ ?_
              rotate_left
              ·intro w'
               go_simp
               with_reducible rfl
              rotate_left
              ·simp only [Act.put, List.setIfInBounds_toArray, List.set_cons_zero, List.set_cons_succ, i64_w, i32_w]
               rfl
              refine pure_ (i := 14) (N := some 57) (v := ?_) (a' := ?_) #[true, true, true, true, true, true, true, true, true, true, true, true, true, true, true, false, false, false, false, false, false, false, false, false, false, false, false, false, false, false, false, false, false, false, false, false, false, false, false, false, false, false, false, false, false, false, false, false, false, false, false, false, false] rfl rfl (any_of HT_.out (by kernel_rfl)) (fun _ _ _ h => h) (Or.inl ⟨by rfl, ?_⟩) ?_ ?_
              rotate_left
              ·intro w'
               go_simp
               with_reducible rfl
              rotate_left
              ·simp only [Act.put, List.setIfInBounds_toArray, List.set_cons_zero, List.set_cons_succ, i64_w, i32_w]
               rfl
              refine pure_ (i := 15) (N := some 58) (v := ?_) (a' := ?_) #[true, true, true, true, true, true, true, true, true, true, true, true, true, true, true, true, false, false, false, false, false, false, false, false, false, false, false, false, false, false, false, false, false, false, false, false, false, false, false, false, false, false, false, false, false, false, false, false, false, false, false, false, false] rfl rfl (any_of HT_.out (by kernel_rfl)) (fun _ _ _ h => h) (Or.inl ⟨by rfl, ?_⟩) ?_ ?_
              rotate_left
              ·intro w'
               go_simp
               with_reducible rfl
              rotate_left
              ·simp only [Act.put, List.setIfInBounds_toArray, List.set_cons_zero, List.set_cons_succ, i64_w, i32_w]
               rfl
              refine pure_ (i := 17) (N := some 60) (v := ?_) (a' := ?_) #[true, true, true, true, true, true, true, true, true, true, true, true, true, true, true, true, false, true, false, false, false, false, false, false, false, false, false, false, false, false, false, false, false, false, false, false, false, false, false, false, false, false, false, false, false, false, false, false, false, false, false, false, false] rfl rfl (any_of HT_.out (by kernel_rfl)) (fun _ _ _ h => h) (Or.inl ⟨by rfl, ?_⟩) ?_ ?_
              rotate_left
              ·intro w'
               go_simp
               with_reducible rfl
              rotate_left
              ·simp only [Act.put, List.setIfInBounds_toArray, List.set_cons_zero, List.set_cons_succ, i64_w, i32_w]
               rfl
              refine pure_ (i := 18) (N := some 61) (v := ?_) (a' := ?_) #[true, true, true, true, true, true, true, true, true, true, true, true, true, true, true, true, false, true, true, false, false, false, false, false, false, false, false, false, false, false, false, false, false, false, false, false, false, false, false, false, false, false, false, false, false, false, false, false, false, false, false, false, false] rfl rfl (any_of HT_.out (by kernel_rfl)) (fun _ _ _ h => h) (Or.inl ⟨by rfl, ?_⟩) ?_ ?_
              rotate_left
              ·intro w'
               go_simp
               with_reducible rfl
              rotate_left
              ·simp only [Act.put, List.setIfInBounds_toArray, List.set_cons_zero, List.set_cons_succ, i64_w, i32_w]
               rfl
              refine pure_ (i := 19) (N := some 62) (v := ?_) (a' := ?_) #[true, true, true, true, true, true, true, true, true, true, true, true, true, true, true, true, false, true, true, true, false, false, false, false, false, false, false, false, false, false, false, false, false, false, false, false, false, false, false, false, false, false, false, false, false, false, false, false, false, false, false, false, false] rfl rfl (any_of HT_.out (by kernel_rfl)) (fun _ _ _ h => h) (Or.inl ⟨by rfl, ?_⟩) ?_ ?_
              rotate_left
              ·intro w'
               go_simp
               with_reducible rfl
              rotate_left
              ·simp only [Act.put, List.setIfInBounds_toArray, List.set_cons_zero, List.set_cons_succ, i64_w, i32_w]
               rfl
              refine pure_ (i := 20) (N := some 63) (v := ?_) (a' := ?_) #[true, true, true, true, true, true, true, true, true, true, true, true, true, true, true, true, false, true, true, true, true, false, false, false, false, false, false, false, false, false, false, false, false, false, false, false, false, false, false, false, false, false, false, false, false, false, false, false, false, false, false, false, false] rfl rfl (any_of HT_.out (by kernel_rfl)) (fun _ _ _ h => h) (Or.inl ⟨by rfl, ?_⟩) ?_ ?_
              rotate_left
              ·intro w'
               go_simp
               with_reducible rfl
              rotate_left
              ·simp only [Act.put, List.setIfInBounds_toArray, List.set_cons_zero, List.set_cons_succ, i64_w, i32_w]
               rfl
              refine take_ (i := 16) (N := some 59) (v := ?_) (a' := ?_) #[true, true, true, true, true, true, true, true, true, true, true, true, true, true, true, true, true, true, true, true, true, false, false, false, false, false, false, false, false, false, false, false, false, false, false, false, false, false, false, false, false, false, false, false, false, false, false, false, false, false, false, false, false] rfl rfl (take_ofW HT_.out HW_.out (by kernel_rfl)) (fun _ _ _ h => h) (Or.inl ⟨by rfl, ?_⟩) hHeld ?_ ?_
              rotate_left
              ·rintro w' ⟨s0, s1, s2, s3, s4, s5, s6, s7, s8, s9, s10, s11, s12, s13, s14, s15, s16, s17, s18, s19, s20, s21, s22, s23, s24, s25, s26, s27, s28, s29, s30, s31⟩
               go_simp
               with_reducible rfl
              rotate_left
              ·simp only [Act.put, List.setIfInBounds_toArray, List.set_cons_zero, List.set_cons_succ, i64_w, i32_w]
               rfl
              refine take_ (i := 21) (N := some 64) (v := ?_) (a' := ?_) #[true, true, true, true, true, true, true, true, true, true, true, true, true, true, true, true, true, true, true, true, true, true, false, false, false, false, false, false, false, false, false, false, false, false, false, false, false, false, false, false, false, false, false, false, false, false, false, false, false, false, false, false, false] rfl rfl (take_ofW HT_.out HW_.out (by kernel_rfl)) (fun _ _ _ h => h) (Or.inl ⟨by rfl, ?_⟩) hHeld ?_ ?_
              rotate_left
              ·rintro w' ⟨s0, s1, s2, s3, s4, s5, s6, s7, s8, s9, s10, s11, s12, s13, s14, s15, s16, s17, s18, s19, s20, s21, s22, s23, s24, s25, s26, s27, s28, s29, s30, s31⟩
               go_simp
               with_reducible rfl
              rotate_left
              ·simp only [Act.put, List.setIfInBounds_toArray, List.set_cons_zero, List.set_cons_succ, i64_w, i32_w]
               rfl
              refine one_ (i := 22) (N := some 65) #[true, true, true, true, true, true, true, true, true, true, true, true, true, true, true, true, true, true, true, true, true, true, true, false, false, false, false, false, false, false, false, false, false, false, false, false, false, false, false, false, false, false, false, false, false, false, false, false, false, false, false, false, false] rfl rfl (one_of HT_.out (by kernel_rfl)) (by decide) (fun K hK => ?_)
              refine goes_ Tryd.func10 (by kernel_rfl) rfl #[.slice A226_0 ((rd_T30 t219 x9_2).f0).length c226_0, .slice A227_0 ((rd_T31 t222 x9_2).f0).length c227_0] (by rfl) rfl rfl (by (try simp only [List.map_toArray, List.map_cons, List.map_nil]); first | done | rfl | (simp only [List.length_drop, List.length_take]; rfl)) ?_
              with_reducible refine (stylusref51_Texts.calls k2 _ _ ((rd_T30 t219 x9_2).f0) _ _ ((rd_T31 t222 x9_2).f0) true _ ?side1 ?side2 ?side3 ?side4 A24.out).mono ?_
              (case side1 => repeat (first | exact (by repeat (first | (with_reducible exact HR228_0.out) | (with_reducible refine Kd.C_alloc ?_ _) | (with_reducible refine Kd.C_drewN ?_ _) | (with_reducible refine Kd.C_drew ?_) | exact HR228_0.out)) | (with_reducible refine Kd.C_alloc ?_ _) | (with_reducible refine Kd.C_drewN ?_ _) | (with_reducible refine Kd.C_drew ?_)))
              (case side2 => exact HC228_0.out)
              (case side3 => repeat (first | exact (by repeat (first | (with_reducible exact HR229_0.out) | (with_reducible refine Kd.C_alloc ?_ _) | (with_reducible refine Kd.C_drewN ?_ _) | (with_reducible refine Kd.C_drew ?_) | exact HR229_0.out)) | (with_reducible refine Kd.C_alloc ?_ _) | (with_reducible refine Kd.C_drewN ?_ _) | (with_reducible refine Kd.C_drew ?_)))
              (case side4 => exact HC229_0.out)
              rintro e w' ⟨rfl, ⟨nd, rfl⟩⟩
              refine ⟨_, rfl, ?_⟩
              refine hK.out _ _ ⟨hHeld.1, hHeld.2.1, hHeld.2.2.1, hHeld.2.2.2.1, hHeld.2.2.2.2.1, hHeld.2.2.2.2.2.1, hHeld.2.2.2.2.2.2.1, hHeld.2.2.2.2.2.2.2.1, hHeld.2.2.2.2.2.2.2.2.1, hHeld.2.2.2.2.2.2.2.2.2.1, hHeld.2.2.2.2.2.2.2.2.2.2.1, hHeld.2.2.2.2.2.2.2.2.2.2.2.1, hHeld.2.2.2.2.2.2.2.2.2.2.2.2.1, hHeld.2.2.2.2.2.2.2.2.2.2.2.2.2.1, hHeld.2.2.2.2.2.2.2.2.2.2.2.2.2.2.1, hHeld.2.2.2.2.2.2.2.2.2.2.2.2.2.2.2.1, hHeld.2.2.2.2.2.2.2.2.2.2.2.2.2.2.2.2.1, hHeld.2.2.2.2.2.2.2.2.2.2.2.2.2.2.2.2.2.1, hHeld.2.2.2.2.2.2.2.2.2.2.2.2.2.2.2.2.2.2.1, hHeld.2.2.2.2.2.2.2.2.2.2.2.2.2.2.2.2.2.2.2.1, hHeld.2.2.2.2.2.2.2.2.2.2.2.2.2.2.2.2.2.2.2.2.1, hHeld.2.2.2.2.2.2.2.2.2.2.2.2.2.2.2.2.2.2.2.2.2.1, hHeld.2.2.2.2.2.2.2.2.2.2.2.2.2.2.2.2.2.2.2.2.2.2.1, hHeld.2.2.2.2.2.2.2.2.2.2.2.2.2.2.2.2.2.2.2.2.2.2.2.1, hHeld.2.2.2.2.2.2.2.2.2.2.2.2.2.2.2.2.2.2.2.2.2.2.2.2.1, hHeld.2.2.2.2.2.2.2.2.2.2.2.2.2.2.2.2.2.2.2.2.2.2.2.2.2.1, hHeld.2.2.2.2.2.2.2.2.2.2.2.2.2.2.2.2.2.2.2.2.2.2.2.2.2.2.1, hHeld.2.2.2.2.2.2.2.2.2.2.2.2.2.2.2.2.2.2.2.2.2.2.2.2.2.2.2.1, hHeld.2.2.2.2.2.2.2.2.2.2.2.2.2.2.2.2.2.2.2.2.2.2.2.2.2.2.2.2.1, hHeld.2.2.2.2.2.2.2.2.2.2.2.2.2.2.2.2.2.2.2.2.2.2.2.2.2.2.2.2.2.1, hHeld.2.2.2.2.2.2.2.2.2.2.2.2.2.2.2.2.2.2.2.2.2.2.2.2.2.2.2.2.2.2.1, hHeld.2.2.2.2.2.2.2.2.2.2.2.2.2.2.2.2.2.2.2.2.2.2.2.2.2.2.2.2.2.2.2⟩ (fun hHeld => ?_)
              clear hK K
              refine norm_ (a' := ?_) ?_ ?_
              rotate_left
              ·show Act.put _ (some 65) _ = _
               simp only [Act.put, List.setIfInBounds_toArray, List.set_cons_zero, List.set_cons_succ, i64_w, i32_w]
               rfl
              refine pure_ (i := 23) (N := some 66) (v := ?_) (a' := ?_) #[true, true, true, true, true, true, true, true, true, true, true, true, true, true, true, true, true, true, true, true, true, true, true, true, false, false, false, false, false, false, false, false, false, false, false, false, false, false, false, false, false, false, false, false, false, false, false, false, false, false, false, false, false] rfl rfl (any_of HT_.out (by kernel_rfl)) (fun _ _ _ h => h) (Or.inl ⟨by rfl, ?_⟩) ?_ ?_
              rotate_left
              ·intro w'
               go_simp
               with_reducible rfl
              rotate_left
              ·simp only [Act.put, List.setIfInBounds_toArray, List.set_cons_zero, List.set_cons_succ, i64_w, i32_w]
               rfl
              refine pure_ (i := 24) (N := some 67) (v := ?_) (a' := ?_) #[true, true, true, true, true, true, true, true, true, true, true, true, true, true, true, true, true, true, true, true, true, true, true, true, true, false, false, false, false, false, false, false, false, false, false, false, false, false, false, false, false, false, false, false, false, false, false, false, false, false, false, false, false] rfl rfl (any_of HT_.out (by kernel_rfl)) (fun _ _ _ h => h) (Or.inl ⟨by rfl, ?_⟩) ?_ ?_
              rotate_left
              ·intro w'
               go_simp
               with_reducible rfl
              rotate_left
              ·simp only [Act.put, List.setIfInBounds_toArray, List.set_cons_zero, List.set_cons_succ, i64_w, i32_w]
               rfl
              refine pure_ (i := 25) (N := some 68) (v := ?_) (a' := ?_) #[true, true, true, true, true, true, true, true, true, true, true, true, true, true, true, true, true, true, true, true, true, true, true, true, true, true, false, false, false, false, false, false, false, false, false, false, false, false, false, false, false, false, false, false, false, false, false, false, false, false, false, false, false] rfl rfl (any_of HT_.out (by kernel_rfl)) (fun _ _ _ h => h) (Or.inl ⟨by rfl, ?_⟩) ?_ ?_
              rotate_left
              ·intro w'
               go_simp
               with_reducible rfl
              rotate_left
              ·simp only [Act.put, List.setIfInBounds_toArray, List.set_cons_zero, List.set_cons_succ, i64_w, i32_w]
               rfl
              refine pure_ (i := 26) (N := some 69) (v := ?_) (a' := ?_) #[true, true, true, true, true, true, true, true, true, true, true, true, true, true, true, true, true, true, true, true, true, true, true, true, true, true, true, false, false, false, false, false, false, false, false, false, false, false, false, false, false, false, false, false, false, false, false, false, false, false, false, false, false] rfl rfl (any_of HT_.out (by kernel_rfl)) (fun _ _ _ h => h) (Or.inl ⟨by rfl, ?_⟩) ?_ ?_
              rotate_left
              ·intro w'
               go_simp
               with_reducible rfl
              rotate_left
              ·simp only [Act.put, List.setIfInBounds_toArray, List.set_cons_zero, List.set_cons_succ, i64_w, i32_w]
               rfl
              refine pure_ (i := 27) (N := some 70) (v := ?_) (a' := ?_) #[true, true, true, true, true, true, true, true, true, true, true, true, true, true, true, true, true, true, true, true, true, true, true, true, true, true, true, true, false, false, false, false, false, false, false, false, false, false, false, false, false, false, false, false, false, false, false, false, false, false, false, false, false] rfl rfl (any_of HT_.out (by kernel_rfl)) (fun _ _ _ h => h) (Or.inl ⟨by rfl, ?_⟩) ?_ ?_
              rotate_left
              ·intro w'
               go_simp
               with_reducible rfl
              rotate_left
              ·simp only [Act.put, List.setIfInBounds_toArray, List.set_cons_zero, List.set_cons_succ, i64_w, i32_w]
               rfl
              refine pure_ (i := 28) (N := some 71) (v := ?_) (a' := ?_) #[true, true, true, true, true, true, true, true, true, true, true, true, true, true, true, true, true, true, true, true, true, true, true, true, true, true, true, true, true, false, false, false, false, false, false, false, false, false, false, false, false, false, false, false, false, false, false, false, false, false, false, false, false] rfl rfl (any_of HT_.out (by kernel_rfl)) (fun _ _ _ h => h) (Or.inl ⟨by rfl, ?_⟩) ?_ ?_
              rotate_left
              ·intro w'
               go_simp
               with_reducible rfl
              rotate_left
              ·simp only [Act.put, List.setIfInBounds_toArray, List.set_cons_zero, List.set_cons_succ, i64_w, i32_w]
               rfl
              refine pure_ (i := 29) (N := some 72) (v := ?_) (a' := ?_) #[true, true, true, true, true, true, true, true, true, true, true, true, true, true, true, true, true, true, true, true, true, true, true, true, true, true, true, true, true, true, false, false, false, false, false, false, false, false, false, false, false, false, false, false, false, false, false, false, false, false, false, false, false] rfl rfl (any_of HT_.out (by kernel_rfl)) (fun _ _ _ h => h) (Or.inl ⟨by rfl, ?_⟩) ?_ ?_
              rotate_left
              ·intro w'
               go_simp
               with_reducible rfl
              rotate_left
              ·simp only [Act.put, List.setIfInBounds_toArray, List.set_cons_zero, List.set_cons_succ, i64_w, i32_w]
               rfl
              refine pure_ (i := 31) (N := some 74) (v := ?_) (a' := ?_) #[true, true, true, true, true, true, true, true, true, true, true, true, true, true, true, true, true, true, true, true, true, true, true, true, true, true, true, true, true, true, false, true, false, false, false, false, false, false, false, false, false, false, false, false, false, false, false, false, false, false, false, false, false] rfl rfl (any_of HT_.out (by kernel_rfl)) (fun _ _ _ h => h) (Or.inl ⟨by rfl, ?_⟩) ?_ ?_
              rotate_left
              ·intro w'
               go_simp
               with_reducible rfl
              rotate_left
              ·simp only [Act.put, List.setIfInBounds_toArray, List.set_cons_zero, List.set_cons_succ, i64_w, i32_w]
               rfl
              refine pure_ (i := 32) (N := some 75) (v := ?_) (a' := ?_) #[true, true, true, true, true, true, true, true, true, true, true, true, true, true, true, true, true, true, true, true, true, true, true, true, true, true, true, true, true, true, false, true, true, false, false, false, false, false, false, false, false, false, false, false, false, false, false, false, false, false, false, false, false] rfl rfl (any_of HT_.out (by kernel_rfl)) (fun _ _ _ h => h) (Or.inl ⟨by rfl, ?_⟩) ?_ ?_
              rotate_left
              ·intro w'
               go_simp
               with_reducible rfl
              rotate_left
              ·simp only [Act.put, List.setIfInBounds_toArray, List.set_cons_zero, List.set_cons_succ, i64_w, i32_w]
               rfl
              refine pure_ (i := 33) (N := some 76) (v := ?_) (a' := ?_) #[true, true, true, true, true, true, true, true, true, true, true, true, true, true, true, true, true, true, true, true, true, true, true, true, true, true, true, true, true, true, false, true, true, true, false, false, false, false, false, false, false, false, false, false, false, false, false, false, false, false, false, false, false] rfl rfl (any_of HT_.out (by kernel_rfl)) (fun _ _ _ h => h) (Or.inl ⟨by rfl, ?_⟩) ?_ ?_
              rotate_left
              ·intro w'
               go_simp
               with_reducible rfl
              rotate_left
              ·simp only [Act.put, List.setIfInBounds_toArray, List.set_cons_zero, List.set_cons_succ, i64_w, i32_w]
               rfl
              refine pure_ (i := 34) (N := some 77) (v := ?_) (a' := ?_) #[true, true, true, true, true, true, true, true, true, true, true, true, true, true, true, true, true, true, true, true, true, true, true, true, true, true, true, true, true, true, false, true, true, true, true, false, false, false, false, false, false, false, false, false, false, false, false, false, false, false, false, false, false] rfl rfl (any_of HT_.out (by kernel_rfl)) (fun _ _ _ h => h) (Or.inl ⟨by rfl, ?_⟩) ?_ ?_
              rotate_left
              ·intro w'
               go_simp
               with_reducible rfl
              rotate_left
              ·simp only [Act.put, List.setIfInBounds_toArray, List.set_cons_zero, List.set_cons_succ, i64_w, i32_w]
               rfl
              refine take_ (i := 30) (N := some 73) (v := ?_) (a' := ?_) #[true, true, true, true, true, true, true, true, true, true, true, true, true, true, true, true, true, true, true, true, true, true, true, true, true, true, true, true, true, true, true, true, true, true, true, false, false, false, false, false, false, false, false, false, false, false, false, false, false, false, false, false, false] rfl rfl (take_ofW HT_.out HW_.out (by kernel_rfl)) (fun _ _ _ h => h) (Or.inl ⟨by rfl, ?_⟩) hHeld ?_ ?_
              rotate_left
              ·rintro w' ⟨s0, s1, s2, s3, s4, s5, s6, s7, s8, s9, s10, s11, s12, s13, s14, s15, s16, s17, s18, s19, s20, s21, s22, s23, s24, s25, s26, s27, s28, s29, s30, s31⟩
               go_simp
               with_reducible rfl
              rotate_left
              ·simp only [Act.put, List.setIfInBounds_toArray, List.set_cons_zero, List.set_cons_succ, i64_w, i32_w]
               rfl
              refine take_ (i := 35) (N := some 78) (v := ?_) (a' := ?_) #[true, true, true, true, true, true, true, true, true, true, true, true, true, true, true, true, true, true, true, true, true, true, true, true, true, true, true, true, true, true, true, true, true, true, true, true, false, false, false, false, false, false, false, false, false, false, false, false, false, false, false, false, false] rfl rfl (take_ofW HT_.out HW_.out (by kernel_rfl)) (fun _ _ _ h => h) (Or.inl ⟨by rfl, ?_⟩) hHeld ?_ ?_
              rotate_left
              ·rintro w' ⟨s0, s1, s2, s3, s4, s5, s6, s7, s8, s9, s10, s11, s12, s13, s14, s15, s16, s17, s18, s19, s20, s21, s22, s23, s24, s25, s26, s27, s28, s29, s30, s31⟩
               go_simp
               with_reducible rfl
              rotate_left
              ·simp only [Act.put, List.setIfInBounds_toArray, List.set_cons_zero, List.set_cons_succ, i64_w, i32_w]
               rfl
              refine one_ (i := 36) (N := some 79) #[true, true, true, true, true, true, true, true, true, true, true, true, true, true, true, true, true, true, true, true, true, true, true, true, true, true, true, true, true, true, true, true, true, true, true, true, true, false, false, false, false, false, false, false, false, false, false, false, false, false, false, false, false] rfl rfl (one_of HT_.out (by kernel_rfl)) (by decide) (fun K hK => ?_)
              refine goes_ Tryd.func10 (by kernel_rfl) rfl #[.slice A226_1 ((rd_T30 t219 x9_2).f1).length c226_1, .slice A227_1 ((rd_T31 t222 x9_2).f1).length c227_1] (by rfl) rfl rfl (by (try simp only [List.map_toArray, List.map_cons, List.map_nil]); first | done | rfl | (simp only [List.length_drop, List.length_take]; rfl)) ?_
              with_reducible refine (stylusref51_Texts.calls k2 _ _ ((rd_T30 t219 x9_2).f1) _ _ ((rd_T31 t222 x9_2).f1) true _ ?side1 ?side2 ?side3 ?side4 A26.out).mono ?_
              (case side1 => repeat (first | exact (by repeat (first | (with_reducible exact HR231_1.out) | (with_reducible refine Kd.C_alloc ?_ _) | (with_reducible refine Kd.C_drewN ?_ _) | (with_reducible refine Kd.C_drew ?_) | exact HR231_1.out)) | (with_reducible refine Kd.C_alloc ?_ _) | (with_reducible refine Kd.C_drewN ?_ _) | (with_reducible refine Kd.C_drew ?_)))
              (case side2 => exact HC231_1.out)
              (case side3 => repeat (first | exact (by repeat (first | (with_reducible exact HR232_1.out) | (with_reducible refine Kd.C_alloc ?_ _) | (with_reducible refine Kd.C_drewN ?_ _) | (with_reducible refine Kd.C_drew ?_) | exact HR232_1.out)) | (with_reducible refine Kd.C_alloc ?_ _) | (with_reducible refine Kd.C_drewN ?_ _) | (with_reducible refine Kd.C_drew ?_)))
              (case side4 => exact HC232_1.out)
              rintro e w' ⟨rfl, ⟨nd, rfl⟩⟩
              refine ⟨_, rfl, ?_⟩
              refine hK.out _ _ ⟨hHeld.1, hHeld.2.1, hHeld.2.2.1, hHeld.2.2.2.1, hHeld.2.2.2.2.1, hHeld.2.2.2.2.2.1, hHeld.2.2.2.2.2.2.1, hHeld.2.2.2.2.2.2.2.1, hHeld.2.2.2.2.2.2.2.2.1, hHeld.2.2.2.2.2.2.2.2.2.1, hHeld.2.2.2.2.2.2.2.2.2.2.1, hHeld.2.2.2.2.2.2.2.2.2.2.2.1, hHeld.2.2.2.2.2.2.2.2.2.2.2.2.1, hHeld.2.2.2.2.2.2.2.2.2.2.2.2.2.1, hHeld.2.2.2.2.2.2.2.2.2.2.2.2.2.2.1, hHeld.2.2.2.2.2.2.2.2.2.2.2.2.2.2.2.1, hHeld.2.2.2.2.2.2.2.2.2.2.2.2.2.2.2.2.1, hHeld.2.2.2.2.2.2.2.2.2.2.2.2.2.2.2.2.2.1, hHeld.2.2.2.2.2.2.2.2.2.2.2.2.2.2.2.2.2.2.1, hHeld.2.2.2.2.2.2.2.2.2.2.2.2.2.2.2.2.2.2.2.1, hHeld.2.2.2.2.2.2.2.2.2.2.2.2.2.2.2.2.2.2.2.2.1, hHeld.2.2.2.2.2.2.2.2.2.2.2.2.2.2.2.2.2.2.2.2.2.1, hHeld.2.2.2.2.2.2.2.2.2.2.2.2.2.2.2.2.2.2.2.2.2.2.1, hHeld.2.2.2.2.2.2.2.2.2.2.2.2.2.2.2.2.2.2.2.2.2.2.2.1, hHeld.2.2.2.2.2.2.2.2.2.2.2.2.2.2.2.2.2.2.2.2.2.2.2.2.1, hHeld.2.2.2.2.2.2.2.2.2.2.2.2.2.2.2.2.2.2.2.2.2.2.2.2.2.1, hHeld.2.2.2.2.2.2.2.2.2.2.2.2.2.2.2.2.2.2.2.2.2.2.2.2.2.2.1, hHeld.2.2.2.2.2.2.2.2.2.2.2.2.2.2.2.2.2.2.2.2.2.2.2.2.2.2.2.1, hHeld.2.2.2.2.2.2.2.2.2.2.2.2.2.2.2.2.2.2.2.2.2.2.2.2.2.2.2.2.1, hHeld.2.2.2.2.2.2.2.2.2.2.2.2.2.2.2.2.2.2.2.2.2.2.2.2.2.2.2.2.2.1, hHeld.2.2.2.2.2.2.2.2.2.2.2.2.2.2.2.2.2.2.2.2.2.2.2.2.2.2.2.2.2.2.1, hHeld.2.2.2.2.2.2.2.2.2.2.2.2.2.2.2.2.2.2.2.2.2.2.2.2.2.2.2.2.2.2.2⟩ (fun hHeld => ?_)
              clear hK K
              refine norm_ (a' := ?_) ?_ ?_
              rotate_left
              ·show Act.put _ (some 79) _ = _
               simp only [Act.put, List.setIfInBounds_toArray, List.set_cons_zero, List.set_cons_succ, i64_w, i32_w]
               rfl
              refine pure_ (i := 37) (N := some 80) (v := ?_) (a' := ?_) #[true, true, true, true, true, true, true, true, true, true, true, true, true, true, true, true, true, true, true, true, true, true, true, true, true, true, true, true, true, true, true, true, true, true, true, true, true, true, false, false, false, false, false, false, false, false, false, false, false, false, false, false, false] rfl rfl (any_of HT_.out (by kernel_rfl)) (fun _ _ _ h => h) (Or.inl ⟨by rfl, ?_⟩) ?_ ?_
              rotate_left
              ·intro w'
               go_simp
               with_reducible rfl
              rotate_left
              ·simp only [Act.put, List.setIfInBounds_toArray, List.set_cons_zero, List.set_cons_succ, i64_w, i32_w]
               rfl
              refine pure_ (i := 38) (N := some 81) (v := ?_) (a' := ?_) #[true, true, true, true, true, true, true, true, true, true, true, true, true, true, true, true, true, true, true, true, true, true, true, true, true, true, true, true, true, true, true, true, true, true, true, true, true, true, true, false, false, false, false, false, false, false, false, false, false, false, false, false, false] rfl rfl (any_of HT_.out (by kernel_rfl)) (fun _ _ _ h => h) (Or.inl ⟨by rfl, ?_⟩) ?_ ?_
              rotate_left
              ·intro w'
               go_simp
               with_reducible rfl
              rotate_left
              ·simp only [Act.put, List.setIfInBounds_toArray, List.set_cons_zero, List.set_cons_succ, i64_w, i32_w]
               rfl
              refine pure_ (i := 39) (N := some 82) (v := ?_) (a' := ?_) #[true, true, true, true, true, true, true, true, true, true, true, true, true, true, true, true, true, true, true, true, true, true, true, true, true, true, true, true, true, true, true, true, true, true, true, true, true, true, true, true, false, false, false, false, false, false, false, false, false, false, false, false, false] rfl rfl (any_of HT_.out (by kernel_rfl)) (fun _ _ _ h => h) (Or.inl ⟨by rfl, ?_⟩) ?_ ?_
              rotate_left
              ·intro w'
               go_simp
               with_reducible rfl
              rotate_left
              ·simp only [Act.put, List.setIfInBounds_toArray, List.set_cons_zero, List.set_cons_succ, i64_w, i32_w]
               rfl
              refine pure_ (i := 40) (N := some 83) (v := ?_) (a' := ?_) #[true, true, true, true, true, true, true, true, true, true, true, true, true, true, true, true, true, true, true, true, true, true, true, true, true, true, true, true, true, true, true, true, true, true, true, true, true, true, true, true, true, false, false, false, false, false, false, false, false, false, false, false, false] rfl rfl (any_of HT_.out (by kernel_rfl)) (fun _ _ _ h => h) (Or.inl ⟨by rfl, ?_⟩) ?_ ?_
              rotate_left
              ·intro w'
               go_simp
               with_reducible rfl
              rotate_left
              ·simp only [Act.put, List.setIfInBounds_toArray, List.set_cons_zero, List.set_cons_succ, i64_w, i32_w]
               rfl
              refine pure_ (i := 41) (N := some 84) (v := ?_) (a' := ?_) #[true, true, true, true, true, true, true, true, true, true, true, true, true, true, true, true, true, true, true, true, true, true, true, true, true, true, true, true, true, true, true, true, true, true, true, true, true, true, true, true, true, true, false, false, false, false, false, false, false, false, false, false, false] rfl rfl (any_of HT_.out (by kernel_rfl)) (fun _ _ _ h => h) (Or.inl ⟨by rfl, ?_⟩) ?_ ?_
              rotate_left
              ·intro w'
               go_simp
               with_reducible rfl
              rotate_left
              ·simp only [Act.put, List.setIfInBounds_toArray, List.set_cons_zero, List.set_cons_succ, i64_w, i32_w]
               rfl
              refine pure_ (i := 42) (N := some 85) (v := ?_) (a' := ?_) #[true, true, true, true, true, true, true, true, true, true, true, true, true, true, true, true, true, true, true, true, true, true, true, true, true, true, true, true, true, true, true, true, true, true, true, true, true, true, true, true, true, true, true, false, false, false, false, false, false, false, false, false, false] rfl rfl (any_of HT_.out (by kernel_rfl)) (fun _ _ _ h => h) (Or.inl ⟨by rfl, ?_⟩) ?_ ?_
              rotate_left
              ·intro w'
               go_simp
               with_reducible rfl
              rotate_left
              ·simp only [Act.put, List.setIfInBounds_toArray, List.set_cons_zero, List.set_cons_succ, i64_w, i32_w]
               rfl
              refine pure_ (i := 43) (N := some 86) (v := ?_) (a' := ?_) #[true, true, true, true, true, true, true, true, true, true, true, true, true, true, true, true, true, true, true, true, true, true, true, true, true, true, true, true, true, true, true, true, true, true, true, true, true, true, true, true, true, true, true, true, false, false, false, false, false, false, false, false, false] rfl rfl (any_of HT_.out (by kernel_rfl)) (fun _ _ _ h => h) (Or.inl ⟨by rfl, ?_⟩) ?_ ?_
              rotate_left
              ·intro w'
               go_simp
               with_reducible rfl
              rotate_left
              ·simp only [Act.put, List.setIfInBounds_toArray, List.set_cons_zero, List.set_cons_succ, i64_w, i32_w]
               rfl
              refine pure_ (i := 45) (N := some 88) (v := ?_) (a' := ?_) #[true, true, true, true, true, true, true, true, true, true, true, true, true, true, true, true, true, true, true, true, true, true, true, true, true, true, true, true, true, true, true, true, true, true, true, true, true, true, true, true, true, true, true, true, false, true, false, false, false, false, false, false, false] rfl rfl (any_of HT_.out (by kernel_rfl)) (fun _ _ _ h => h) (Or.inl ⟨by rfl, ?_⟩) ?_ ?_
              rotate_left
              ·intro w'
               go_simp
               with_reducible rfl
              rotate_left
              ·simp only [Act.put, List.setIfInBounds_toArray, List.set_cons_zero, List.set_cons_succ, i64_w, i32_w]
               rfl
              refine pure_ (i := 46) (N := some 89) (v := ?_) (a' := ?_) #[true, true, true, true, true, true, true, true, true, true, true, true, true, true, true, true, true, true, true, true, true, true, true, true, true, true, true, true, true, true, true, true, true, true, true, true, true, true, true, true, true, true, true, true, false, true, true, false, false, false, false, false, false] rfl rfl (any_of HT_.out (by kernel_rfl)) (fun _ _ _ h => h) (Or.inl ⟨by rfl, ?_⟩) ?_ ?_
              rotate_left
              ·intro w'
               go_simp
               with_reducible rfl
              rotate_left
              ·simp only [Act.put, List.setIfInBounds_toArray, List.set_cons_zero, List.set_cons_succ, i64_w, i32_w]
               rfl
              refine pure_ (i := 47) (N := some 90) (v := ?_) (a' := ?_) #[true, true, true, true, true, true, true, true, true, true, true, true, true, true, true, true, true, true, true, true, true, true, true, true, true, true, true, true, true, true, true, true, true, true, true, true, true, true, true, true, true, true, true, true, false, true, true, true, false, false, false, false, false] rfl rfl (any_of HT_.out (by kernel_rfl)) (fun _ _ _ h => h) (Or.inl ⟨by rfl, ?_⟩) ?_ ?_
              rotate_left
              ·intro w'
               go_simp
               with_reducible rfl
              rotate_left
              ·simp only [Act.put, List.setIfInBounds_toArray, List.set_cons_zero, List.set_cons_succ, i64_w, i32_w]
               rfl
              refine pure_ (i := 48) (N := some 91) (v := ?_) (a' := ?_) #[true, true, true, true, true, true, true, true, true, true, true, true, true, true, true, true, true, true, true, true, true, true, true, true, true, true, true, true, true, true, true, true, true, true, true, true, true, true, true, true, true, true, true, true, false, true, true, true, true, false, false, false, false] rfl rfl (any_of HT_.out (by kernel_rfl)) (fun _ _ _ h => h) (Or.inl ⟨by rfl, ?_⟩) ?_ ?_
              rotate_left
              ·intro w'
               go_simp
               with_reducible rfl
              rotate_left
              ·simp only [Act.put, List.setIfInBounds_toArray, List.set_cons_zero, List.set_cons_succ, i64_w, i32_w]
               rfl
              refine take_ (i := 44) (N := some 87) (v := ?_) (a' := ?_) #[true, true, true, true, true, true, true, true, true, true, true, true, true, true, true, true, true, true, true, true, true, true, true, true, true, true, true, true, true, true, true, true, true, true, true, true, true, true, true, true, true, true, true, true, true, true, true, true, true, false, false, false, false] rfl rfl (take_ofW HT_.out HW_.out (by kernel_rfl)) (fun _ _ _ h => h) (Or.inl ⟨by rfl, ?_⟩) hHeld ?_ ?_
              rotate_left
              ·rintro w' ⟨s0, s1, s2, s3, s4, s5, s6, s7, s8, s9, s10, s11, s12, s13, s14, s15, s16, s17, s18, s19, s20, s21, s22, s23, s24, s25, s26, s27, s28, s29, s30, s31⟩
               go_simp
               with_reducible rfl
              rotate_left
              ·simp only [Act.put, List.setIfInBounds_toArray, List.set_cons_zero, List.set_cons_succ, i64_w, i32_w]
               rfl
              refine take_ (i := 49) (N := some 92) (v := ?_) (a' := ?_) #[true, true, true, true, true, true, true, true, true, true, true, true, true, true, true, true, true, true, true, true, true, true, true, true, true, true, true, true, true, true, true, true, true, true, true, true, true, true, true, true, true, true, true, true, true, true, true, true, true, true, false, false, false] rfl rfl (take_ofW HT_.out HW_.out (by kernel_rfl)) (fun _ _ _ h => h) (Or.inl ⟨by rfl, ?_⟩) hHeld ?_ ?_
              rotate_left
              ·rintro w' ⟨s0, s1, s2, s3, s4, s5, s6, s7, s8, s9, s10, s11, s12, s13, s14, s15, s16, s17, s18, s19, s20, s21, s22, s23, s24, s25, s26, s27, s28, s29, s30, s31⟩
               go_simp
               with_reducible rfl
              rotate_left
              ·simp only [Act.put, List.setIfInBounds_toArray, List.set_cons_zero, List.set_cons_succ, i64_w, i32_w]
               rfl
              refine one_ (i := 50) (N := some 93) #[true, true, true, true, true, true, true, true, true, true, true, true, true, true, true, true, true, true, true, true, true, true, true, true, true, true, true, true, true, true, true, true, true, true, true, true, true, true, true, true, true, true, true, true, true, true, true, true, true, true, true, false, false] rfl rfl (one_of HT_.out (by kernel_rfl)) (by decide) (fun K hK => ?_)
              refine goes_ Tryd.func10 (by kernel_rfl) rfl #[.slice A226_2 ((rd_T30 t219 x9_2).f2).length c226_2, .slice A227_2 ((rd_T31 t222 x9_2).f2).length c227_2] (by rfl) rfl rfl (by (try simp only [List.map_toArray, List.map_cons, List.map_nil]); first | done | rfl | (simp only [List.length_drop, List.length_take]; rfl)) ?_
              with_reducible refine (stylusref51_Texts.calls k2 _ _ ((rd_T30 t219 x9_2).f2) _ _ ((rd_T31 t222 x9_2).f2) true _ ?side1 ?side2 ?side3 ?side4 A28.out).mono ?_
              (case side1 => repeat (first | exact (by repeat (first | (with_reducible exact HR234_2.out) | (with_reducible refine Kd.C_alloc ?_ _) | (with_reducible refine Kd.C_drewN ?_ _) | (with_reducible refine Kd.C_drew ?_) | exact HR234_2.out)) | (with_reducible refine Kd.C_alloc ?_ _) | (with_reducible refine Kd.C_drewN ?_ _) | (with_reducible refine Kd.C_drew ?_)))
              (case side2 => exact HC234_2.out)
              (case side3 => repeat (first | exact (by repeat (first | (with_reducible exact HR235_2.out) | (with_reducible refine Kd.C_alloc ?_ _) | (with_reducible refine Kd.C_drewN ?_ _) | (with_reducible refine Kd.C_drew ?_) | exact HR235_2.out)) | (with_reducible refine Kd.C_alloc ?_ _) | (with_reducible refine Kd.C_drewN ?_ _) | (with_reducible refine Kd.C_drew ?_)))
              (case side4 => exact HC235_2.out)
              rintro e w' ⟨rfl, ⟨nd, rfl⟩⟩
              refine ⟨_, rfl, ?_⟩
              refine hK.out _ _ ⟨hHeld.1, hHeld.2.1, hHeld.2.2.1, hHeld.2.2.2.1, hHeld.2.2.2.2.1, hHeld.2.2.2.2.2.1, hHeld.2.2.2.2.2.2.1, hHeld.2.2.2.2.2.2.2.1, hHeld.2.2.2.2.2.2.2.2.1, hHeld.2.2.2.2.2.2.2.2.2.1, hHeld.2.2.2.2.2.2.2.2.2.2.1, hHeld.2.2.2.2.2.2.2.2.2.2.2.1, hHeld.2.2.2.2.2.2.2.2.2.2.2.2.1, hHeld.2.2.2.2.2.2.2.2.2.2.2.2.2.1, hHeld.2.2.2.2.2.2.2.2.2.2.2.2.2.2.1, hHeld.2.2.2.2.2.2.2.2.2.2.2.2.2.2.2.1, hHeld.2.2.2.2.2.2.2.2.2.2.2.2.2.2.2.2.1, hHeld.2.2.2.2.2.2.2.2.2.2.2.2.2.2.2.2.2.1, hHeld.2.2.2.2.2.2.2.2.2.2.2.2.2.2.2.2.2.2.1, hHeld.2.2.2.2.2.2.2.2.2.2.2.2.2.2.2.2.2.2.2.1, hHeld.2.2.2.2.2.2.2.2.2.2.2.2.2.2.2.2.2.2.2.2.1, hHeld.2.2.2.2.2.2.2.2.2.2.2.2.2.2.2.2.2.2.2.2.2.1, hHeld.2.2.2.2.2.2.2.2.2.2.2.2.2.2.2.2.2.2.2.2.2.2.1, hHeld.2.2.2.2.2.2.2.2.2.2.2.2.2.2.2.2.2.2.2.2.2.2.2.1, hHeld.2.2.2.2.2.2.2.2.2.2.2.2.2.2.2.2.2.2.2.2.2.2.2.2.1, hHeld.2.2.2.2.2.2.2.2.2.2.2.2.2.2.2.2.2.2.2.2.2.2.2.2.2.1, hHeld.2.2.2.2.2.2.2.2.2.2.2.2.2.2.2.2.2.2.2.2.2.2.2.2.2.2.1, hHeld.2.2.2.2.2.2.2.2.2.2.2.2.2.2.2.2.2.2.2.2.2.2.2.2.2.2.2.1, hHeld.2.2.2.2.2.2.2.2.2.2.2.2.2.2.2.2.2.2.2.2.2.2.2.2.2.2.2.2.1, hHeld.2.2.2.2.2.2.2.2.2.2.2.2.2.2.2.2.2.2.2.2.2.2.2.2.2.2.2.2.2.1, hHeld.2.2.2.2.2.2.2.2.2.2.2.2.2.2.2.2.2.2.2.2.2.2.2.2.2.2.2.2.2.2.1, hHeld.2.2.2.2.2.2.2.2.2.2.2.2.2.2.2.2.2.2.2.2.2.2.2.2.2.2.2.2.2.2.2⟩ (fun hHeld => ?_)
              clear hK K
              refine norm_ (a' := ?_) ?_ ?_
              rotate_left
              ·show Act.put _ (some 93) _ = _
               simp only [Act.put, List.setIfInBounds_toArray, List.set_cons_zero, List.set_cons_succ, i64_w, i32_w]
               rfl
              refine pure_ (i := 51) (N := some 94) (v := ?_) (a' := ?_) #[true, true, true, true, true, true, true, true, true, true, true, true, true, true, true, true, true, true, true, true, true, true, true, true, true, true, true, true, true, true, true, true, true, true, true, true, true, true, true, true, true, true, true, true, true, true, true, true, true, true, true, true, false] rfl rfl (any_of HT_.out (by kernel_rfl)) (fun _ _ _ h => h) (Or.inl ⟨by rfl, ?_⟩) ?_ ?_
              rotate_left
              ·intro w'
               go_simp
               with_reducible rfl
              rotate_left
              ·simp only [Act.put, List.setIfInBounds_toArray, List.set_cons_zero, List.set_cons_succ, i64_w, i32_w]
               rfl
              refine pure_ (i := 52) (N := some 95) (v := ?_) (a' := ?_) #[true, true, true, true, true, true, true, true, true, true, true, true, true, true, true, true, true, true, true, true, true, true, true, true, true, true, true, true, true, true, true, true, true, true, true, true, true, true, true, true, true, true, true, true, true, true, true, true, true, true, true, true, true] rfl rfl (any_of HT_.out (by kernel_rfl)) (fun _ _ _ h => h) (Or.inl ⟨by rfl, ?_⟩) ?_ ?_
              rotate_left
              ·intro w'
               go_simp
               with_reducible rfl
              rotate_left
              ·simp only [Act.put, List.setIfInBounds_toArray, List.set_cons_zero, List.set_cons_succ, i64_w, i32_w]
               rfl
              refine done_ (done_of HT_.out (by kernel_rfl)) ?_
              try go_wp2
              go_roundg k2
              case measure => have := HJ3.out; have := HK2.out; omega
              case rel => exact ⟨(wrap64 (x9_2 + 1)), (by first | rfl | (simp; done) | (simp [*]; done)), H', ⟨by have := HJ3.out; have := HK2.out; omega⟩, ⟨by (with_reducible repeat (first | apply Kd.N_alloc | apply Kd.N_drewN | apply Kd.N_drew)); exact HO_7.out⟩, ⟨by (with_reducible repeat (first | apply Kd.N_alloc | apply Kd.N_drewN | apply Kd.N_drew)); exact HO_8.out⟩, ⟨by repeat (first | (with_reducible first | exact HB.out | apply below_alloc | apply pw_below_drewN | apply below_drew1) | exact HB.out)⟩⟩
             ·replace c29 := Bool.eq_false_iff.mpr c29
              subst c29
              have H1 : (none) = some r := by rw [if_neg (show ¬ (false = true) by decide)] at H; exact H
              clear H
              have H := H1
              clear H1
              exact absurd H (by simp)
            ·replace c27 := Bool.eq_false_iff.mpr c27
             subst c27
             have H1 : (none) = some r := by rw [if_neg (show ¬ (false = true) by decide)] at H; exact H
             clear H
             have H := H1
             clear H1
             exact absurd H (by simp)
           ·replace c25 := Bool.eq_false_iff.mpr c25
            subst c25
            have H1 : (none) = some r := by rw [if_neg (show ¬ (false = true) by decide)] at H; exact H
            clear H
            have H := H1
            clear H1
            exact absurd H (by simp)
         ·rw [if_neg c22] at H
          exact absurd H (by simp)
        ·rw [if_neg c21] at H
         exact absurd H (by simp)
       ·rw [if_neg c20] at H
        have c20b0 : decide (x9_2 < (t219.length : Int)) = false := decide_eq_false c20
        clear c20
        replace H := Option.bind_eq_some_iff.mp H
        obtain ⟨t225, A310, H⟩ := H
        replace H : (some t225) = some r := H
        have A31 := Aside0.mk A310
        clear A310
        obtain rfl := Option.some.inj H
        go_wp2_with (first | ((with_reducible refine gate_callee (f := 7) rfl ?_); refine goesL_ (some 96) rfl rfl Tryd.func7 (by kernel_rfl) rfl #[] rfl (by (try simp only [List.map_toArray, List.map_cons, List.map_nil]); first | done | rfl | (simp only [List.length_drop, List.length_take]; rfl)) ?_; (with_reducible refine (styluslaw52_lives.calls  t225 _ A31.out).mono ?_); rintro e w32 ⟨rfl, hb⟩; refine ⟨_, rfl, ?_⟩; have n0_ := Aside0.mk (Kd.N_below (by (with_reducible repeat (first | apply Kd.N_alloc | apply Kd.N_drewN | apply Kd.N_drew)); exact HO_7.out) hb); have n1_ := Aside0.mk (Kd.N_below (by (with_reducible repeat (first | apply Kd.N_alloc | apply Kd.N_drewN | apply Kd.N_drew)); exact HO_8.out) hb); have n2_ := Aside0.mk (below_step (by repeat (first | (with_reducible first | exact HB.out | apply below_alloc | apply pw_below_drewN | apply below_drew1) | exact HB.out)) hb); clear HO_7; clear HO_8; clear HB; have HO_7 := n0_; have HO_8 := n1_; have HB := n2_; clear n0_ n1_ n2_; (try clear hb); (try clear hb2); (try clear hk); (try clear hi)))
        go_ret
        exact ⟨by first | rfl | (simp [errW_none, errW_some] <;> rfl) | (simp [*, errW_none, errW_some] <;> rfl), by repeat (first | (with_reducible first | exact HB.out | apply below_alloc | apply pw_below_drewN | apply below_drew1) | exact HB.out)⟩
    ·rw [if_neg c15] at H
     exact absurd H (by simp)
/-- THE ONE PURE STATEMENT of styluslaw52_MergePieces. -/
def styluslaw52_MergePieces.Pure : Prop := ∀ (x0 : List ByteArray) (x1 : List ByteArray) (x2 : List ByteArray), (x0.length ≤ 140737488351232 ∧ ∀ y_x0 ∈ x0, y_x0.size ≤ 140737488351232) → (x1.length ≤ 140737488351232 ∧ ∀ y_x1 ∈ x1, y_x1.size ≤ 140737488351232) → (x2.length ≤ 140737488351232 ∧ ∀ y_x2 ∈ x2, y_x2.size ≤ 140737488351232) → ∃ k, styluslaw52_MergePieces.f k x0 x1 x2 = some true
end Go.Proofs.YtkbhnkagiaghnaaDoor.P
