-- Laid by a program of this session (wip/tools/fork_print.py over the kit's print) out of Lean's print of the translation. Lean checks it.
import Derived.Test.YtgcilgjkihmclaaDoorPx0
import Derived.Test.YtgcilgjkihmclaaDoorPx1
import Derived.Test.YtgcilgjkihmclaaDoorPx3
import Derived.Test.YtgcilgjkihmclaaDoorPx4
import Derived.Test.YtgcilgjkihmclaaDoorPx5
namespace Go.Proofs.YtgcilgjkihmclaaDoor.P
open Go.RowKit Go.Proofs.YtgcilgjkihmclaaDoorW.PrintWords Go.Proofs.YtgcilgjkihmclaaDoorW.PrintLast Go.Proofs.YtgcilgjkihmclaaDoorW.PrintMore
attribute [local go_sem] max2_int min2_int max_two min_two max_three min_three max_four min_four   -- for this text's walks alone
set_option linter.unusedVariables false
set_option linter.unusedSimpArgs false

/-! ### styluslaw51_HunksApplies: function 3 -/
mutual
def styluslaw51_HunksApplies.j0 : Nat → List ByteArray → List (S28) → ByteArray → Bool → Option (Bool)
  | 0, _, _, _, _ => none
  | k + 1, x0, x1, x2, x29 => if x29 = true then ((styluslaw51_lives.f).bind fun t144 => (some t144)) else (styluslaw51_HunksApplies.l0 k x0 x1 x2 ([] : List (S29)) 0)
def styluslaw51_HunksApplies.l0 : Nat → List ByteArray → List (S28) → ByteArray → List (S29) → Int → Option (Bool)
  | 0, _, _, _, _, _ => none
  | k + 1, x0, x1, x2, x7, x8 => if x8 < (x1.length : Int) then (if 0 ≤ x8 then ((styluslaw51_few.f k ((rd_T28 x1 x8).f2)).bind fun t146 => (if t146 = true then (if ((rd_T28 x1 x8).f1) > 1099511627776 then ((styluslaw51_lives.f).bind fun t148 => (some t148)) else (if ((rd_T28 x1 x8).f1) < (-1099511627776) then ((styluslaw51_lives.f).bind fun t150 => (some t150)) else (if x7.length < 3518437208883 then (styluslaw51_HunksApplies.l0 k x0 x1 x2 (x7 ++ [(⟨(rd_T28 x1 x8).f0, (rd_T28 x1 x8).f1, (rd_T28 x1 x8).f2⟩ : S29)]) (wrap64 (x8 + 1))) else (none)))) else ((styluslaw51_lives.f).bind fun t157 => (some t157)))) else (none)) else ((hunks_Apply.f k x0 x7).bind fun bt158 => ((stylusref51_Apply.f k x0 x1).bind fun bt162 => ((hunks_Size.f k x7).bind fun bt166 => ((stylusref51_Size.f k x1).bind fun bt168 => ((stylusref51_Texts.f k bt158.1 bt162.1).bind fun t170 => (if t170 = true then (if bt158.2 = bt162.2 then (if bt166.1 = bt168.1 then (if bt166.2 = bt168.2 then ((hunks_Cut.f k x2).bind fun t171 => ((stylusref51_Cut.f k x2).bind fun t174 => ((stylusref51_Texts.f k t171 t174).bind fun t177 => (if t177 = true then ((styluslaw51_lives.f).bind fun t178 => (some t178)) else (none))))) else (none)) else (none)) else (none)) else (none)))))))
end
def styluslaw51_HunksApplies.f (k : Nat) (l0 : List ByteArray) (l1 : List (S28)) (a2 : ByteArray) : Option (Bool) := (styluslaw51_few.f k l0).bind fun t143 => (if t143 = true then (if (l1.length : Int) > 20 then (styluslaw51_HunksApplies.j0 k l0 l1 a2 true) else (styluslaw51_HunksApplies.j0 k l0 l1 a2 (decide ((a2.size : Int) > 1000)))) else (styluslaw51_HunksApplies.j0 k l0 l1 a2 true))
theorem styluslaw51_HunksApplies.mono_l : ∀ k, (∀ y0 y1 y2 y3, LeO (styluslaw51_HunksApplies.j0 k y0 y1 y2 y3) (styluslaw51_HunksApplies.j0 (k + 1) y0 y1 y2 y3)) ∧ (∀ y0 y1 y2 y3 y4, LeO (styluslaw51_HunksApplies.l0 k y0 y1 y2 y3 y4) (styluslaw51_HunksApplies.l0 (k + 1) y0 y1 y2 y3 y4))
  | 0 => ⟨fun _ _ _ _ r h => by simp [styluslaw51_HunksApplies.j0] at h, fun _ _ _ _ _ r h => by simp [styluslaw51_HunksApplies.l0] at h⟩
  | k + 1 => by
    obtain ⟨ih0, ih1⟩ := styluslaw51_HunksApplies.mono_l k
    refine ⟨?_, ?_⟩
    · intro y0 y1 y2 y3
      unfold styluslaw51_HunksApplies.j0
      repeat' first
      | (with_reducible exact ih0 _ _ _ _)
      | (with_reducible exact ih1 _ _ _ _ _)
      | (with_reducible exact hunks_Apply.mono _ _ _)
      | (with_reducible exact hunks_Cut.mono _ _)
      | (with_reducible exact hunks_Size.mono _ _)
      | (with_reducible exact styluslaw51_few.mono _ _)
      | (with_reducible exact stylusref51_Apply.mono _ _ _)
      | (with_reducible exact stylusref51_Cut.mono _ _)
      | (with_reducible exact stylusref51_Size.mono _ _)
      | (with_reducible exact stylusref51_Texts.mono _ _ _)
      | (with_reducible exact LeO.refl _)
      | (with_reducible exact LeO.none _)
      | (with_reducible refine LeO.ite ?_ ?_)
      | (with_reducible refine LeO.bind ?_ (fun _ => ?_))
      | exact ih0 _ _ _ _
      | exact ih1 _ _ _ _ _
      | exact hunks_Apply.mono _ _ _
      | exact hunks_Cut.mono _ _
      | exact hunks_Size.mono _ _
      | exact styluslaw51_few.mono _ _
      | exact stylusref51_Apply.mono _ _ _
      | exact stylusref51_Cut.mono _ _
      | exact stylusref51_Size.mono _ _
      | exact stylusref51_Texts.mono _ _ _
      | exact LeO.none _
      | refine LeO.ite ?_ ?_
      | refine LeO.bind ?_ (fun _ => ?_)
    · intro y0 y1 y2 y3 y4
      unfold styluslaw51_HunksApplies.l0
      repeat' first
      | (with_reducible exact ih0 _ _ _ _)
      | (with_reducible exact ih1 _ _ _ _ _)
      | (with_reducible exact hunks_Apply.mono _ _ _)
      | (with_reducible exact hunks_Cut.mono _ _)
      | (with_reducible exact hunks_Size.mono _ _)
      | (with_reducible exact styluslaw51_few.mono _ _)
      | (with_reducible exact stylusref51_Apply.mono _ _ _)
      | (with_reducible exact stylusref51_Cut.mono _ _)
      | (with_reducible exact stylusref51_Size.mono _ _)
      | (with_reducible exact stylusref51_Texts.mono _ _ _)
      | (with_reducible exact LeO.refl _)
      | (with_reducible exact LeO.none _)
      | (with_reducible refine LeO.ite ?_ ?_)
      | (with_reducible refine LeO.bind ?_ (fun _ => ?_))
      | exact ih0 _ _ _ _
      | exact ih1 _ _ _ _ _
      | exact hunks_Apply.mono _ _ _
      | exact hunks_Cut.mono _ _
      | exact hunks_Size.mono _ _
      | exact styluslaw51_few.mono _ _
      | exact stylusref51_Apply.mono _ _ _
      | exact stylusref51_Cut.mono _ _
      | exact stylusref51_Size.mono _ _
      | exact stylusref51_Texts.mono _ _ _
      | exact LeO.none _
      | refine LeO.ite ?_ ?_
      | refine LeO.bind ?_ (fun _ => ?_)
theorem styluslaw51_HunksApplies.mono : ∀ a0 a1 a2 k, LeO (styluslaw51_HunksApplies.f k a0 a1 a2) (styluslaw51_HunksApplies.f (k + 1) a0 a1 a2) := by
  intro a0 a1 a2 k
  obtain ⟨ih0, ih1⟩ := styluslaw51_HunksApplies.mono_l k
  unfold styluslaw51_HunksApplies.f
  repeat' first
      | (with_reducible exact ih0 _ _ _ _)
      | (with_reducible exact ih1 _ _ _ _ _)
      | (with_reducible exact hunks_Apply.mono _ _ _)
      | (with_reducible exact hunks_Cut.mono _ _)
      | (with_reducible exact hunks_Size.mono _ _)
      | (with_reducible exact styluslaw51_few.mono _ _)
      | (with_reducible exact stylusref51_Apply.mono _ _ _)
      | (with_reducible exact stylusref51_Cut.mono _ _)
      | (with_reducible exact stylusref51_Size.mono _ _)
      | (with_reducible exact stylusref51_Texts.mono _ _ _)
      | (with_reducible exact LeO.refl _)
      | (with_reducible exact LeO.none _)
      | (with_reducible refine LeO.ite ?_ ?_)
      | (with_reducible refine LeO.bind ?_ (fun _ => ?_))
      | exact ih0 _ _ _ _
      | exact ih1 _ _ _ _ _
      | exact hunks_Apply.mono _ _ _
      | exact hunks_Cut.mono _ _
      | exact hunks_Size.mono _ _
      | exact styluslaw51_few.mono _ _
      | exact stylusref51_Apply.mono _ _ _
      | exact stylusref51_Cut.mono _ _
      | exact stylusref51_Size.mono _ _
      | exact stylusref51_Texts.mono _ _ _
      | exact LeO.none _
      | refine LeO.ite ?_ ?_
      | refine LeO.bind ?_ (fun _ => ?_)
def styluslaw51_HunksApplies.T9 : Bool × List (List Nat × List Nat) := (true, [([], []), ([], []), ([], []), ([1, 2], [1, 2]), ([3], [3]), ([4], [4]), ([], []), ([], []), ([6, 7], [6, 7]), ([8], [8]), ([9], [9]), ([], []), ([], []), ([11, 12], [11, 12]), ([13], [13]), ([14], [14]), ([5, 10, 15], [5, 10, 15]), ([16], [16]), ([0, 17], [0, 17]), ([18, 18, 0, 1, 2, 3, 4, 5, 6, 7, 8, 9, 10, 11, 12, 13, 14, 15, 16, 17, 18], [0, 18])])
def styluslaw51_HunksApplies.B9 : List Nat := [0, 0, 0, 6, 14, 30, 0, 0, 192, 448, 960, 0, 0, 6144, 14336, 30720, 65534, 131070, 262143, 524287]
theorem styluslaw51_HunksApplies.tab9 : rtab .any (opsOf Tryd.f3 9) = styluslaw51_HunksApplies.T9 := by kernel_rfl
theorem styluslaw51_HunksApplies.bits9 : waitsOk styluslaw51_HunksApplies.T9.2 styluslaw51_HunksApplies.B9 = true := by kernel_rfl
set_option maxHeartbeats 8000000 in
set_option maxRecDepth 100000 in
theorem styluslaw51_HunksApplies.calls (k : Nat) (A0 : Option Addr) (c0 : Nat) (l0 : List ByteArray) (P1_ : Nat → Prop) (A1 : Option Addr) (c1 : Nat) (l1 : List (S28)) (a2 : ByteArray) (r : Bool) (w : World) (hr0 : Kd.C Kd.string w A0 l0.length l0) (hc0 : l0.length ≤ c0) (hs1 : Kd.V k28 28 w w.heap.size (fun k_ => P1_ k_) (.slice A1 l1.length c1) l1) (h : styluslaw51_HunksApplies.f k l0 l1 a2 = some r) :
    Calls Tryd.prog 3 #[.slice A0 l0.length c0, .slice A1 l1.length c1, .string a2] w fun e w' => e = .returned (.bool r) ∧ Below w.heap.size w w' := by
  have hu29 := Tryd.underlying29
  have HR0 := Aside0.mk hr0
  have HC0 := Aside0.mk hc0
  clear hr0 hc0
  have HO1 := Aside0.mk (show Kd.V k28 28 w w.heap.size (fun k_ => (P1_ k_ ∨ w.heap.size ≤ k_)) (.slice A1 l1.length c1) l1 from Kd.V_mono hs1 (fun k_ hk => .inl hk))
  have HB := Aside0.mk (Below.refl w.heap.size w)
  have H : ((styluslaw51_few.f k l0).bind fun t143 => (if t143 = true then (if (l1.length : Int) > 20 then (styluslaw51_HunksApplies.j0 k l0 l1 a2 true) else (styluslaw51_HunksApplies.j0 k l0 l1 a2 (decide ((a2.size : Int) > 1000)))) else (styluslaw51_HunksApplies.j0 k l0 l1 a2 true))) = some r := h
  clear h
  have HC4 := Aside0.mk H
  clear H
  go_enter Tryd.func3, Tryd.ntmps3
  go_upto_region 1 with (fail)
  go_cut [29] (fun v29 wc => ∃ (kq : Nat) (x29_3 : Bool), v29 = .bool x29_3 ∧ Aside0 (styluslaw51_HunksApplies.j0 kq l0 l1 a2 x29_3 = some r) ∧ Aside0 (kq ≤ k) ∧ Aside0 (Kd.V k28 28 wc w.heap.size (fun k_ => (P1_ k_ ∨ w.heap.size ≤ k_)) (.slice A1 l1.length c1) l1) ∧ Aside0 (Below w.heap.size w wc))
  case first =>
    have H := HC4.out
    clear HC4
    replace H := Option.bind_eq_some_iff.mp H
    obtain ⟨t143, A50, H⟩ := H
    replace H : (if t143 = true then (if (l1.length : Int) > 20 then (styluslaw51_HunksApplies.j0 k l0 l1 a2 true) else (styluslaw51_HunksApplies.j0 k l0 l1 a2 (decide ((a2.size : Int) > 1000)))) else (styluslaw51_HunksApplies.j0 k l0 l1 a2 true)) = some r := H
    have A5 := Aside0.mk A50
    clear A50
    by_cases c6 : t143 = true
    · subst c6
      have H1 : (if (l1.length : Int) > 20 then (styluslaw51_HunksApplies.j0 k l0 l1 a2 true) else (styluslaw51_HunksApplies.j0 k l0 l1 a2 (decide ((a2.size : Int) > 1000)))) = some r := by rw [if_pos rfl] at H; exact H
      clear H
      have H := H1
      clear H1
      by_cases c7 : (l1.length : Int) > 20
      · rw [if_pos c7] at H
        have c7b0 : decide (20 < (l1.length : Int)) = true := decide_eq_true c7
        have c7b1 : decide (20 < l1.length) = true := decide_eq_true (by omega)
        clear c7
        (first | rw [c7b0] | (simp only [i64_w, i32_w]; rw [c7b0]) | skip)
        have H' := Aside0.mk H
        clear H
        go_wp2_with (first | ((with_reducible refine gate_callee (f := 4) rfl ?_); refine goesL_ (some 18) rfl rfl Tryd.func4 (by kernel_rfl) rfl #[.slice A0 l0.length c0] rfl (by (try simp only [List.map_toArray, List.map_cons, List.map_nil]); first | done | rfl | (simp only [List.length_drop, List.length_take]; rfl)) ?_; (with_reducible refine (styluslaw51_few.calls k _ _ l0 true _ ?side1 ?side2 A5.out).mono ?_); (case side1 => repeat (first | exact (Kd.C_below HR0.out HB.out) | (with_reducible refine Kd.C_alloc ?_ _) | (with_reducible refine Kd.C_drewN ?_ _) | (with_reducible refine Kd.C_drew ?_))); (case side2 => exact HC0.out); rintro e w' ⟨rfl, ⟨nd, rfl⟩⟩; refine ⟨_, rfl, ?_⟩))
        go_meet
        case rel => exact ⟨_, (true), (by first | rfl | (simp; done) | (simp [*]; done)), H', ⟨by first | omega | exact Nat.le_refl _⟩, ⟨by (with_reducible repeat (first | apply Kd.V_alloc | apply Kd.V_drewN | apply Kd.V_drew)); exact HO1.out⟩, ⟨by repeat (first | (with_reducible first | exact HB.out | apply below_alloc | apply pw_below_drewN | apply below_drew1) | exact HB.out)⟩⟩
      · rw [if_neg c7] at H
        have c7b0 : decide (20 < (l1.length : Int)) = false := decide_eq_false c7
        have c7b1 : decide (20 < l1.length) = false := decide_eq_false (by omega)
        clear c7
        (first | rw [c7b0] | (simp only [i64_w, i32_w]; rw [c7b0]) | skip)
        have H' := Aside0.mk H
        clear H
        go_wp2_with (first | ((with_reducible refine gate_callee (f := 4) rfl ?_); refine goesL_ (some 18) rfl rfl Tryd.func4 (by kernel_rfl) rfl #[.slice A0 l0.length c0] rfl (by (try simp only [List.map_toArray, List.map_cons, List.map_nil]); first | done | rfl | (simp only [List.length_drop, List.length_take]; rfl)) ?_; (with_reducible refine (styluslaw51_few.calls k _ _ l0 true _ ?side1 ?side2 A5.out).mono ?_); (case side1 => repeat (first | exact (Kd.C_below HR0.out HB.out) | (with_reducible refine Kd.C_alloc ?_ _) | (with_reducible refine Kd.C_drewN ?_ _) | (with_reducible refine Kd.C_drew ?_))); (case side2 => exact HC0.out); rintro e w' ⟨rfl, ⟨nd, rfl⟩⟩; refine ⟨_, rfl, ?_⟩))
        go_meet
        case rel => exact ⟨_, (decide ((a2.size : Int) > 1000)), (by first | rfl | (simp; done) | (simp [*]; done)), H', ⟨by first | omega | exact Nat.le_refl _⟩, ⟨by (with_reducible repeat (first | apply Kd.V_alloc | apply Kd.V_drewN | apply Kd.V_drew)); exact HO1.out⟩, ⟨by repeat (first | (with_reducible first | exact HB.out | apply below_alloc | apply pw_below_drewN | apply below_drew1) | exact HB.out)⟩⟩
    · replace c6 := Bool.eq_false_iff.mpr c6
      subst c6
      have H1 : (styluslaw51_HunksApplies.j0 k l0 l1 a2 true) = some r := by rw [if_neg (show ¬ (false = true) by decide)] at H; exact H
      clear H
      have H := H1
      clear H1
      have H' := Aside0.mk H
      clear H
      go_wp2_with (first | ((with_reducible refine gate_callee (f := 4) rfl ?_); refine goesL_ (some 18) rfl rfl Tryd.func4 (by kernel_rfl) rfl #[.slice A0 l0.length c0] rfl (by (try simp only [List.map_toArray, List.map_cons, List.map_nil]); first | done | rfl | (simp only [List.length_drop, List.length_take]; rfl)) ?_; (with_reducible refine (styluslaw51_few.calls k _ _ l0 false _ ?side1 ?side2 A5.out).mono ?_); (case side1 => repeat (first | exact (Kd.C_below HR0.out HB.out) | (with_reducible refine Kd.C_alloc ?_ _) | (with_reducible refine Kd.C_drewN ?_ _) | (with_reducible refine Kd.C_drew ?_))); (case side2 => exact HC0.out); rintro e w' ⟨rfl, ⟨nd, rfl⟩⟩; refine ⟨_, rfl, ?_⟩))
      go_meet
      case rel => exact ⟨_, (true), (by first | rfl | (simp; done) | (simp [*]; done)), H', ⟨by first | omega | exact Nat.le_refl _⟩, ⟨by (with_reducible repeat (first | apply Kd.V_alloc | apply Kd.V_drewN | apply Kd.V_drew)); exact HO1.out⟩, ⟨by repeat (first | (with_reducible first | exact HB.out | apply below_alloc | apply pw_below_drewN | apply below_drew1) | exact HB.out)⟩⟩
  case rest =>
    clear HC4
    try clear c1
    try clear p2
    try clear c3
    try clear c4
    try clear c6
    try clear c7
    try clear c7b0
    try clear c7b1
    obtain ⟨kq, x29_3, rfl, HA, HJ3, HO_1, HB⟩ := hcut
    cases kq with
    | zero => exact absurd HA.out (by simp [styluslaw51_HunksApplies.j0])
    | succ kj3 =>
      have H := HA.out
      clear HA
      simp only [styluslaw51_HunksApplies.j0] at H
      by_cases c8 : x29_3 = true
      · subst c8
        have H1 : ((styluslaw51_lives.f).bind fun t144 => (some t144)) = some r := by rw [if_pos rfl] at H; exact H
        clear H
        have H := H1
        clear H1
        replace H := Option.bind_eq_some_iff.mp H
        obtain ⟨t144, A90, H⟩ := H
        replace H : (some t144) = some r := H
        have A9 := Aside0.mk A90
        clear A90
        obtain rfl := Option.some.inj H
        go_wp2_with (first | ((with_reducible refine gate_callee (f := 5) rfl ?_); refine goesL_ (some 30) rfl rfl Tryd.func5 (by kernel_rfl) rfl #[] rfl (by (try simp only [List.map_toArray, List.map_cons, List.map_nil]); first | done | rfl | (simp only [List.length_drop, List.length_take]; rfl)) ?_; (with_reducible refine (styluslaw51_lives.calls  t144 _ A9.out).mono ?_); rintro e w10 ⟨rfl, hb⟩; refine ⟨_, rfl, ?_⟩; have n0_ := Aside0.mk (Kd.V_below (by (with_reducible repeat (first | apply Kd.V_alloc | apply Kd.V_drewN | apply Kd.V_drew)); exact HO_1.out) hb); have n1_ := Aside0.mk (below_step (by repeat (first | (with_reducible first | exact HB.out | apply below_alloc | apply pw_below_drewN | apply below_drew1) | exact HB.out)) hb); clear HO_1; clear HB; have HO_1 := n0_; have HB := n1_; clear n0_ n1_; (try clear hb); (try clear hb2); (try clear hk); (try clear hi)))
        go_ret
        exact ⟨by first | rfl | (simp [errW_none, errW_some] <;> rfl) | (simp [*, errW_none, errW_some] <;> rfl), by repeat (first | (with_reducible first | exact HB.out | apply below_alloc | apply pw_below_drewN | apply below_drew1) | exact HB.out)⟩
      · replace c8 := Bool.eq_false_iff.mpr c8
        subst c8
        have H1 : (styluslaw51_HunksApplies.l0 kj3 l0 l1 a2 ([] : List (S29)) 0) = some r := by rw [if_neg (show ¬ (false = true) by decide)] at H; exact H
        clear H
        have H := H1
        clear H1
        have H' := Aside0.mk H
        clear H
        go_wp2
        go_loopg [7, 8] kj3 (fun kq v7 v8 w' => ∃ (x7_2 : List (S29)) (x8_2 : Int), v8 = .int .i64 x8_2 ∧ Aside0 (styluslaw51_HunksApplies.l0 kq l0 l1 a2 x7_2 x8_2 = some r) ∧ Aside0 (kq ≤ kj3) ∧ Aside0 (Kd.V k28 28 w' w.heap.size (fun k_ => (P1_ k_ ∨ w.heap.size ≤ k_) ∧ some k_ ≠ (v7 : Value).ownBlock) (.slice A1 l1.length c1) l1) ∧ Aside0 (Kd.N k29 29 w' w.heap.size (fun k_ => (P1_ k_ ∨ w.heap.size ≤ k_)) v7 x7_2) ∧ Aside0 (Below w.heap.size w w'))
        case atStart => exact ⟨(([] : List (S29))), (0), (by first | rfl | (simp; done) | (simp [*]; done)), H', ⟨Nat.le_refl _⟩, ⟨by (with_reducible repeat (first | apply Kd.V_alloc | apply Kd.V_drewN | apply Kd.V_drew)); exact Kd.V_mono HO_1.out (fun _ hk => ⟨hk, (by simp [Value.ownBlock])⟩)⟩, ⟨by first | exact Kd.S_nil _ _ _ _ _ | exact Kd.N_nil _ _ _ _ _ | exact Kd.V_nil _ _ _ _ _ | exact Kd.Q_nil _ _ _ _ _ | exact Kd.R_nil _ _ _ _ _⟩, ⟨by repeat (first | (with_reducible first | exact HB.out | apply below_alloc | apply pw_below_drewN | apply below_drew1) | exact HB.out)⟩⟩
        case round =>
          clear H'
          try clear c1
          try clear p2
          try clear c3
          try clear c4
          try clear c5
          try clear c6
          try clear c7
          try clear c7b0
          try clear c7b1
          try clear c8
          try clear p2
          obtain ⟨x7_2, x8_2, rfl, HA, HK2, HO_1, HO_7, HB⟩ := hrel
          cases gk with
          | zero => exact absurd HA.out (by simp [styluslaw51_HunksApplies.l0])
          | succ k2 =>
            have H := HA.out
            clear HA
            simp only [styluslaw51_HunksApplies.l0] at H
            by_cases c11 : x8_2 < (l1.length : Int)
            · rw [if_pos c11] at H
              have c11b0 : decide (x8_2 < (l1.length : Int)) = true := decide_eq_true c11
              clear c11
              by_cases c12 : 0 ≤ x8_2
              · rw [if_pos c12] at H
                have c12b0 : decide (0 ≤ x8_2) = true := decide_eq_true c12
                clear c12
                replace H := Option.bind_eq_some_iff.mp H
                obtain ⟨t146, A130, H⟩ := H
                replace H : (if t146 = true then (if ((rd_T28 l1 x8_2).f1) > 1099511627776 then ((styluslaw51_lives.f).bind fun t148 => (some t148)) else (if ((rd_T28 l1 x8_2).f1) < (-1099511627776) then ((styluslaw51_lives.f).bind fun t150 => (some t150)) else (if x7_2.length < 3518437208883 then (styluslaw51_HunksApplies.l0 k2 l0 l1 a2 (x7_2 ++ [(⟨(rd_T28 l1 x8_2).f0, (rd_T28 l1 x8_2).f1, (rd_T28 l1 x8_2).f2⟩ : S29)]) (wrap64 (x8_2 + 1))) else (none)))) else ((styluslaw51_lives.f).bind fun t157 => (some t157))) = some r := H
                have A13 := Aside0.mk A130
                clear A130
                by_cases c14 : t146 = true
                · subst c14
                  have H1 : (if ((rd_T28 l1 x8_2).f1) > 1099511627776 then ((styluslaw51_lives.f).bind fun t148 => (some t148)) else (if ((rd_T28 l1 x8_2).f1) < (-1099511627776) then ((styluslaw51_lives.f).bind fun t150 => (some t150)) else (if x7_2.length < 3518437208883 then (styluslaw51_HunksApplies.l0 k2 l0 l1 a2 (x7_2 ++ [(⟨(rd_T28 l1 x8_2).f0, (rd_T28 l1 x8_2).f1, (rd_T28 l1 x8_2).f2⟩ : S29)]) (wrap64 (x8_2 + 1))) else (none)))) = some r := by rw [if_pos rfl] at H; exact H
                  clear H
                  have H := H1
                  clear H1
                  by_cases c15 : ((rd_T28 l1 x8_2).f1) > 1099511627776
                  · rw [if_pos c15] at H
                    have c15b0 : decide (1099511627776 < ((rd_T28 l1 x8_2).f1)) = true := decide_eq_true c15
                    clear c15
                    replace H := Option.bind_eq_some_iff.mp H
                    obtain ⟨t148, A160, H⟩ := H
                    replace H : (some t148) = some r := H
                    have A16 := Aside0.mk A160
                    clear A160
                    obtain rfl := Option.some.inj H
                    have p145 : 0 ≤ (x8_2 : Int) := of_decide_eq_true (by first | (with_reducible assumption) | assumption)
                    have q145 : x8_2 < (l1.length : Int) := of_decide_eq_true (by first | (with_reducible assumption) | assumption)
                    obtain ⟨ad145, A145_2, c145_2, e145, hx145_0, hx145_1, hx145_2, hl145_2, hi145_2⟩ := at_T28 (Kd.V_reads' HO_1.out).2.2 x8_2 p145 q145
                    cases e145
                    obtain ⟨ce145, hce145, hMe145, hcc145⟩ := Kd.V_get HO_1.out z28 x8_2 p145 (by first | exact q145 | exact of_decide_eq_true (by first | (with_reducible assumption) | assumption) | (have e_ := (Kd.V_reads' HO_1.out).1; omega))
                    obtain ⟨ua145_2, uc145_2, rfl, ul145_2, ge145_2⟩ := k28_openF hMe145
                    have hv145_2 := hcc145 2 _ rfl
                    rw [add_field _ _ 2 (by omega)] at hv145_2
                    replace hv145_2 := Option.some.inj (hv145_2.symm.trans hx145_2)
                    injection hv145_2 with hva_ hvn_ hvc_
                    rw [hva_] at ge145_2
                    rw [hvc_] at ul145_2
                    have HL145_2 := Aside0.mk (show Kd.V Kd.string 9 _ w.heap.size _ _ ((rd_T28 l1 x8_2).f2) from Kd.V_mk ul145_2 ge145_2)
                    clear hva_ hvn_ hvc_ ge145_2 ul145_2
                    clear hcc145 hce145
                    have HR145_2 := Aside0.mk hi145_2
                    have HC145_2 := Aside0.mk hl145_2
                    clear hi145_2 hl145_2
                    replace p145 := eq_true p145
                    replace q145 := eq_true q145
                    go_wp2_with (first | ((with_reducible refine gate_callee (f := 4) rfl ?_); refine goesL_ (some 42) rfl rfl Tryd.func4 (by kernel_rfl) rfl #[.slice A145_2 ((rd_T28 l1 x8_2).f2).length c145_2] rfl (by (try simp only [List.map_toArray, List.map_cons, List.map_nil]); first | done | rfl | (simp only [List.length_drop, List.length_take]; rfl)) ?_; (with_reducible refine (styluslaw51_few.calls k2 _ _ ((rd_T28 l1 x8_2).f2) true _ ?side1 ?side2 A13.out).mono ?_); (case side1 => repeat (first | exact (by repeat (first | (with_reducible exact HR145_2.out) | (with_reducible refine Kd.C_alloc ?_ _) | (with_reducible refine Kd.C_drewN ?_ _) | (with_reducible refine Kd.C_drew ?_) | exact HR145_2.out)) | (with_reducible refine Kd.C_alloc ?_ _) | (with_reducible refine Kd.C_drewN ?_ _) | (with_reducible refine Kd.C_drew ?_))); (case side2 => exact HC145_2.out); rintro e w' ⟨rfl, ⟨nd, rfl⟩⟩; refine ⟨_, rfl, ?_⟩; have p147 : 0 ≤ (x8_2 : Int) := of_decide_eq_true (by first | (with_reducible assumption) | assumption); have q147 : x8_2 < (l1.length : Int) := of_decide_eq_true (by first | (with_reducible assumption) | assumption); obtain ⟨ad147, A147_2, c147_2, e147, hx147_0, hx147_1, hx147_2, hl147_2, hi147_2⟩ := at_T28 (Kd.V_reads' HO_1.out).2.2 x8_2 p147 q147; obtain rfl : ad145 = ad147 := (by injection e147); obtain ⟨ce147, hce147, hMe147, hcc147⟩ := Kd.V_get HO_1.out z28 x8_2 p147 (by first | exact q147 | exact of_decide_eq_true (by first | (with_reducible assumption) | assumption) | (have e_ := (Kd.V_reads' HO_1.out).1; omega)); obtain ⟨ua147_2, uc147_2, rfl, ul147_2, ge147_2⟩ := k28_openF hMe147; have hv147_2 := hcc147 2 _ rfl; rw [add_field _ _ 2 (by omega)] at hv147_2; replace hv147_2 := Option.some.inj (hv147_2.symm.trans hx147_2); injection hv147_2 with hva_ hvn_ hvc_; rw [hva_] at ge147_2; rw [hvc_] at ul147_2; have HL147_2 := Aside0.mk (show Kd.V Kd.string 9 _ w.heap.size _ _ ((rd_T28 l1 x8_2).f2) from Kd.V_mk ul147_2 ge147_2); clear hva_ hvn_ hvc_ ge147_2 ul147_2; clear hcc147 hce147; have HR147_2 := Aside0.mk hi147_2; have HC147_2 := Aside0.mk hl147_2; clear hi147_2 hl147_2; replace p147 := eq_true p147; replace q147 := eq_true q147; have ea_ := Option.some.inj (hx145_2.symm.trans hx147_2); injection ea_ with ea_ en_ ec_; subst ea_; subst ec_; clear en_) | ((with_reducible refine gate_callee (f := 5) rfl ?_); refine goesL_ (some 60) rfl rfl Tryd.func5 (by kernel_rfl) rfl #[] rfl (by (try simp only [List.map_toArray, List.map_cons, List.map_nil]); first | done | rfl | (simp only [List.length_drop, List.length_take]; rfl)) ?_; (with_reducible refine (styluslaw51_lives.calls  t148 _ A16.out).mono ?_); rintro e w17 ⟨rfl, hb⟩; refine ⟨_, rfl, ?_⟩; have n0_ := Aside0.mk (Kd.V_below (by (with_reducible repeat (first | apply Kd.V_alloc | apply Kd.V_drewN | apply Kd.V_drew)); exact HO_1.out) hb); have n1_ := Aside0.mk (Kd.N_below (by (with_reducible repeat (first | apply Kd.N_alloc | apply Kd.N_drewN | apply Kd.N_drew)); exact HO_7.out) hb); have n2_ := Aside0.mk (Kd.V_below (by (with_reducible repeat (first | apply Kd.V_alloc | apply Kd.V_drewN | apply Kd.V_drew)); exact HL145_2.out) hb); have n3_ := Aside0.mk (Kd.V_below (by (with_reducible repeat (first | apply Kd.V_alloc | apply Kd.V_drewN | apply Kd.V_drew)); exact HL147_2.out) hb); have n4_ := Aside0.mk (Kd.C_below (by repeat (first | (with_reducible exact HR145_2.out) | (with_reducible refine Kd.C_alloc ?_ _) | (with_reducible refine Kd.C_drewN ?_ _) | (with_reducible refine Kd.C_drew ?_) | exact HR145_2.out)) hb); have n5_ := Aside0.mk (Kd.C_below (by repeat (first | (with_reducible exact HR147_2.out) | (with_reducible refine Kd.C_alloc ?_ _) | (with_reducible refine Kd.C_drewN ?_ _) | (with_reducible refine Kd.C_drew ?_) | exact HR147_2.out)) hb); have n6_ := Aside0.mk (below_step (by repeat (first | (with_reducible first | exact HB.out | apply below_alloc | apply pw_below_drewN | apply below_drew1) | exact HB.out)) hb); clear HO_1; clear HO_7; clear HL145_2; clear HL147_2; clear HR145_2; clear HR147_2; clear HB; have HO_1 := n0_; have HO_7 := n1_; have HL145_2 := n2_; have HL147_2 := n3_; have HR145_2 := n4_; have HR147_2 := n5_; have HB := n6_; clear n0_ n1_ n2_ n3_ n4_ n5_ n6_; (try clear hb); (try clear hb2); (try clear hk); (try clear hi)))
                    go_ret
                    exact ⟨by first | rfl | (simp [errW_none, errW_some] <;> rfl) | (simp [*, errW_none, errW_some] <;> rfl), by repeat (first | (with_reducible first | exact HB.out | apply below_alloc | apply pw_below_drewN | apply below_drew1) | exact HB.out)⟩
                  · rw [if_neg c15] at H
                    have c15b0 : decide (1099511627776 < ((rd_T28 l1 x8_2).f1)) = false := decide_eq_false c15
                    clear c15
                    by_cases c18 : ((rd_T28 l1 x8_2).f1) < (-1099511627776)
                    · rw [if_pos c18] at H
                      have c18b0 : decide (((rd_T28 l1 x8_2).f1) < (-1099511627776)) = true := decide_eq_true c18
                      clear c18
                      replace H := Option.bind_eq_some_iff.mp H
                      obtain ⟨t150, A190, H⟩ := H
                      replace H : (some t150) = some r := H
                      have A19 := Aside0.mk A190
                      clear A190
                      obtain rfl := Option.some.inj H
                      have p145 : 0 ≤ (x8_2 : Int) := of_decide_eq_true (by first | (with_reducible assumption) | assumption)
                      have q145 : x8_2 < (l1.length : Int) := of_decide_eq_true (by first | (with_reducible assumption) | assumption)
                      obtain ⟨ad145, A145_2, c145_2, e145, hx145_0, hx145_1, hx145_2, hl145_2, hi145_2⟩ := at_T28 (Kd.V_reads' HO_1.out).2.2 x8_2 p145 q145
                      cases e145
                      obtain ⟨ce145, hce145, hMe145, hcc145⟩ := Kd.V_get HO_1.out z28 x8_2 p145 (by first | exact q145 | exact of_decide_eq_true (by first | (with_reducible assumption) | assumption) | (have e_ := (Kd.V_reads' HO_1.out).1; omega))
                      obtain ⟨ua145_2, uc145_2, rfl, ul145_2, ge145_2⟩ := k28_openF hMe145
                      have hv145_2 := hcc145 2 _ rfl
                      rw [add_field _ _ 2 (by omega)] at hv145_2
                      replace hv145_2 := Option.some.inj (hv145_2.symm.trans hx145_2)
                      injection hv145_2 with hva_ hvn_ hvc_
                      rw [hva_] at ge145_2
                      rw [hvc_] at ul145_2
                      have HL145_2 := Aside0.mk (show Kd.V Kd.string 9 _ w.heap.size _ _ ((rd_T28 l1 x8_2).f2) from Kd.V_mk ul145_2 ge145_2)
                      clear hva_ hvn_ hvc_ ge145_2 ul145_2
                      clear hcc145 hce145
                      have HR145_2 := Aside0.mk hi145_2
                      have HC145_2 := Aside0.mk hl145_2
                      clear hi145_2 hl145_2
                      replace p145 := eq_true p145
                      replace q145 := eq_true q145
                      go_wp2_with (first | ((with_reducible refine gate_callee (f := 4) rfl ?_); refine goesL_ (some 42) rfl rfl Tryd.func4 (by kernel_rfl) rfl #[.slice A145_2 ((rd_T28 l1 x8_2).f2).length c145_2] rfl (by (try simp only [List.map_toArray, List.map_cons, List.map_nil]); first | done | rfl | (simp only [List.length_drop, List.length_take]; rfl)) ?_; (with_reducible refine (styluslaw51_few.calls k2 _ _ ((rd_T28 l1 x8_2).f2) true _ ?side1 ?side2 A13.out).mono ?_); (case side1 => repeat (first | exact (by repeat (first | (with_reducible exact HR145_2.out) | (with_reducible refine Kd.C_alloc ?_ _) | (with_reducible refine Kd.C_drewN ?_ _) | (with_reducible refine Kd.C_drew ?_) | exact HR145_2.out)) | (with_reducible refine Kd.C_alloc ?_ _) | (with_reducible refine Kd.C_drewN ?_ _) | (with_reducible refine Kd.C_drew ?_))); (case side2 => exact HC145_2.out); rintro e w' ⟨rfl, ⟨nd, rfl⟩⟩; refine ⟨_, rfl, ?_⟩; have p147 : 0 ≤ (x8_2 : Int) := of_decide_eq_true (by first | (with_reducible assumption) | assumption); have q147 : x8_2 < (l1.length : Int) := of_decide_eq_true (by first | (with_reducible assumption) | assumption); obtain ⟨ad147, A147_2, c147_2, e147, hx147_0, hx147_1, hx147_2, hl147_2, hi147_2⟩ := at_T28 (Kd.V_reads' HO_1.out).2.2 x8_2 p147 q147; obtain rfl : ad145 = ad147 := (by injection e147); obtain ⟨ce147, hce147, hMe147, hcc147⟩ := Kd.V_get HO_1.out z28 x8_2 p147 (by first | exact q147 | exact of_decide_eq_true (by first | (with_reducible assumption) | assumption) | (have e_ := (Kd.V_reads' HO_1.out).1; omega)); obtain ⟨ua147_2, uc147_2, rfl, ul147_2, ge147_2⟩ := k28_openF hMe147; have hv147_2 := hcc147 2 _ rfl; rw [add_field _ _ 2 (by omega)] at hv147_2; replace hv147_2 := Option.some.inj (hv147_2.symm.trans hx147_2); injection hv147_2 with hva_ hvn_ hvc_; rw [hva_] at ge147_2; rw [hvc_] at ul147_2; have HL147_2 := Aside0.mk (show Kd.V Kd.string 9 _ w.heap.size _ _ ((rd_T28 l1 x8_2).f2) from Kd.V_mk ul147_2 ge147_2); clear hva_ hvn_ hvc_ ge147_2 ul147_2; clear hcc147 hce147; have HR147_2 := Aside0.mk hi147_2; have HC147_2 := Aside0.mk hl147_2; clear hi147_2 hl147_2; replace p147 := eq_true p147; replace q147 := eq_true q147; have ea_ := Option.some.inj (hx145_2.symm.trans hx147_2); injection ea_ with ea_ en_ ec_; subst ea_; subst ec_; clear en_; have p149 : 0 ≤ (x8_2 : Int) := of_decide_eq_true (by first | (with_reducible assumption) | assumption); have q149 : x8_2 < (l1.length : Int) := of_decide_eq_true (by first | (with_reducible assumption) | assumption); obtain ⟨ad149, A149_2, c149_2, e149, hx149_0, hx149_1, hx149_2, hl149_2, hi149_2⟩ := at_T28 (Kd.V_reads' HO_1.out).2.2 x8_2 p149 q149; obtain rfl : ad145 = ad149 := (by injection e149); obtain ⟨ce149, hce149, hMe149, hcc149⟩ := Kd.V_get HO_1.out z28 x8_2 p149 (by first | exact q149 | exact of_decide_eq_true (by first | (with_reducible assumption) | assumption) | (have e_ := (Kd.V_reads' HO_1.out).1; omega)); obtain ⟨ua149_2, uc149_2, rfl, ul149_2, ge149_2⟩ := k28_openF hMe149; have hv149_2 := hcc149 2 _ rfl; rw [add_field _ _ 2 (by omega)] at hv149_2; replace hv149_2 := Option.some.inj (hv149_2.symm.trans hx149_2); injection hv149_2 with hva_ hvn_ hvc_; rw [hva_] at ge149_2; rw [hvc_] at ul149_2; have HL149_2 := Aside0.mk (show Kd.V Kd.string 9 _ w.heap.size _ _ ((rd_T28 l1 x8_2).f2) from Kd.V_mk ul149_2 ge149_2); clear hva_ hvn_ hvc_ ge149_2 ul149_2; clear hcc149 hce149; have HR149_2 := Aside0.mk hi149_2; have HC149_2 := Aside0.mk hl149_2; clear hi149_2 hl149_2; replace p149 := eq_true p149; replace q149 := eq_true q149; have ea_ := Option.some.inj (hx145_2.symm.trans hx149_2); injection ea_ with ea_ en_ ec_; subst ea_; subst ec_; clear en_) | ((with_reducible refine gate_callee (f := 5) rfl ?_); refine goesL_ (some 60) rfl rfl Tryd.func5 (by kernel_rfl) rfl #[] rfl (by (try simp only [List.map_toArray, List.map_cons, List.map_nil]); first | done | rfl | (simp only [List.length_drop, List.length_take]; rfl)) ?_; (with_reducible refine (styluslaw51_lives.calls  t150 _ A19.out).mono ?_); rintro e w20 ⟨rfl, hb⟩; refine ⟨_, rfl, ?_⟩; have n0_ := Aside0.mk (Kd.V_below (by (with_reducible repeat (first | apply Kd.V_alloc | apply Kd.V_drewN | apply Kd.V_drew)); exact HO_1.out) hb); have n1_ := Aside0.mk (Kd.N_below (by (with_reducible repeat (first | apply Kd.N_alloc | apply Kd.N_drewN | apply Kd.N_drew)); exact HO_7.out) hb); have n2_ := Aside0.mk (Kd.V_below (by (with_reducible repeat (first | apply Kd.V_alloc | apply Kd.V_drewN | apply Kd.V_drew)); exact HL145_2.out) hb); have n3_ := Aside0.mk (Kd.V_below (by (with_reducible repeat (first | apply Kd.V_alloc | apply Kd.V_drewN | apply Kd.V_drew)); exact HL147_2.out) hb); have n4_ := Aside0.mk (Kd.V_below (by (with_reducible repeat (first | apply Kd.V_alloc | apply Kd.V_drewN | apply Kd.V_drew)); exact HL149_2.out) hb); have n5_ := Aside0.mk (Kd.C_below (by repeat (first | (with_reducible exact HR145_2.out) | (with_reducible refine Kd.C_alloc ?_ _) | (with_reducible refine Kd.C_drewN ?_ _) | (with_reducible refine Kd.C_drew ?_) | exact HR145_2.out)) hb); have n6_ := Aside0.mk (Kd.C_below (by repeat (first | (with_reducible exact HR147_2.out) | (with_reducible refine Kd.C_alloc ?_ _) | (with_reducible refine Kd.C_drewN ?_ _) | (with_reducible refine Kd.C_drew ?_) | exact HR147_2.out)) hb); have n7_ := Aside0.mk (Kd.C_below (by repeat (first | (with_reducible exact HR149_2.out) | (with_reducible refine Kd.C_alloc ?_ _) | (with_reducible refine Kd.C_drewN ?_ _) | (with_reducible refine Kd.C_drew ?_) | exact HR149_2.out)) hb); have n8_ := Aside0.mk (below_step (by repeat (first | (with_reducible first | exact HB.out | apply below_alloc | apply pw_below_drewN | apply below_drew1) | exact HB.out)) hb); clear HO_1; clear HO_7; clear HL145_2; clear HL147_2; clear HL149_2; clear HR145_2; clear HR147_2; clear HR149_2; clear HB; have HO_1 := n0_; have HO_7 := n1_; have HL145_2 := n2_; have HL147_2 := n3_; have HL149_2 := n4_; have HR145_2 := n5_; have HR147_2 := n6_; have HR149_2 := n7_; have HB := n8_; clear n0_ n1_ n2_ n3_ n4_ n5_ n6_ n7_ n8_; (try clear hb); (try clear hb2); (try clear hk); (try clear hi)))
                      go_ret
                      exact ⟨by first | rfl | (simp [errW_none, errW_some] <;> rfl) | (simp [*, errW_none, errW_some] <;> rfl), by repeat (first | (with_reducible first | exact HB.out | apply below_alloc | apply pw_below_drewN | apply below_drew1) | exact HB.out)⟩
                    · rw [if_neg c18] at H
                      have c18b0 : decide (((rd_T28 l1 x8_2).f1) < (-1099511627776)) = false := decide_eq_false c18
                      clear c18
                      by_cases c21 : x7_2.length < 3518437208883
                      · rw [if_pos c21] at H
                        have LMc21 := Aside0.mk c21
                        clear c21
                        obtain ⟨y154, hy154⟩ : ∃ y_ : List (S29), y_ = (x7_2 ++ [(⟨(rd_T28 l1 x8_2).f0, (rd_T28 l1 x8_2).f1, (rd_T28 l1 x8_2).f2⟩ : S29)]) := ⟨_, rfl⟩
                        replace H : (styluslaw51_HunksApplies.l0 k2 l0 l1 a2 y154 (wrap64 (x8_2 + 1))) = some r := by first | (rw [hy154]; with_reducible exact H) | (have H2_ := (Option.bind_some _ _).symm.trans H; rw [hy154]; with_reducible exact H2_) | (have H2_ := (Option.bind_some _ _).symm.trans H; with_reducible exact H2_) | with_reducible exact H | (rw [hy154]; exact H) | exact H
                        have Ny154 := Aside0.mk hy154
                        clear hy154
                        have H' := Aside0.mk H
                        clear H
                        have p145 : 0 ≤ (x8_2 : Int) := of_decide_eq_true (by first | (with_reducible assumption) | assumption)
                        have q145 : x8_2 < (l1.length : Int) := of_decide_eq_true (by first | (with_reducible assumption) | assumption)
                        obtain ⟨ad145, A145_2, c145_2, e145, hx145_0, hx145_1, hx145_2, hl145_2, hi145_2⟩ := at_T28 (Kd.V_reads' HO_1.out).2.2 x8_2 p145 q145
                        cases e145
                        obtain ⟨ce145, hce145, hMe145, hcc145⟩ := Kd.V_get HO_1.out z28 x8_2 p145 (by first | exact q145 | exact of_decide_eq_true (by first | (with_reducible assumption) | assumption) | (have e_ := (Kd.V_reads' HO_1.out).1; omega))
                        obtain ⟨ua145_2, uc145_2, rfl, ul145_2, ge145_2⟩ := k28_openF hMe145
                        have hv145_2 := hcc145 2 _ rfl
                        rw [add_field _ _ 2 (by omega)] at hv145_2
                        replace hv145_2 := Option.some.inj (hv145_2.symm.trans hx145_2)
                        injection hv145_2 with hva_ hvn_ hvc_
                        rw [hva_] at ge145_2
                        rw [hvc_] at ul145_2
                        have HL145_2 := Aside0.mk (show Kd.V Kd.string 9 _ w.heap.size _ _ ((rd_T28 l1 x8_2).f2) from Kd.V_mk ul145_2 ge145_2)
                        clear hva_ hvn_ hvc_ ge145_2 ul145_2
                        clear hcc145 hce145
                        have HR145_2 := Aside0.mk hi145_2
                        have HC145_2 := Aside0.mk hl145_2
                        clear hi145_2 hl145_2
                        replace p145 := eq_true p145
                        replace q145 := eq_true q145
                        try go_wp2_with (first | ((with_reducible refine gate_callee (f := 4) rfl ?_); refine goesL_ (some 42) rfl rfl Tryd.func4 (by kernel_rfl) rfl #[.slice A145_2 ((rd_T28 l1 x8_2).f2).length c145_2] rfl (by (try simp only [List.map_toArray, List.map_cons, List.map_nil]); first | done | rfl | (simp only [List.length_drop, List.length_take]; rfl)) ?_; (with_reducible refine (styluslaw51_few.calls k2 _ _ ((rd_T28 l1 x8_2).f2) true _ ?side1 ?side2 A13.out).mono ?_); (case side1 => repeat (first | exact (by repeat (first | (with_reducible exact HR145_2.out) | (with_reducible refine Kd.C_alloc ?_ _) | (with_reducible refine Kd.C_drewN ?_ _) | (with_reducible refine Kd.C_drew ?_) | exact HR145_2.out)) | (with_reducible refine Kd.C_alloc ?_ _) | (with_reducible refine Kd.C_drewN ?_ _) | (with_reducible refine Kd.C_drew ?_))); (case side2 => exact HC145_2.out); rintro e w' ⟨rfl, ⟨nd, rfl⟩⟩; refine ⟨_, rfl, ?_⟩; have p147 : 0 ≤ (x8_2 : Int) := of_decide_eq_true (by first | (with_reducible assumption) | assumption); have q147 : x8_2 < (l1.length : Int) := of_decide_eq_true (by first | (with_reducible assumption) | assumption); obtain ⟨ad147, A147_2, c147_2, e147, hx147_0, hx147_1, hx147_2, hl147_2, hi147_2⟩ := at_T28 (Kd.V_reads' HO_1.out).2.2 x8_2 p147 q147; obtain rfl : ad145 = ad147 := (by injection e147); obtain ⟨ce147, hce147, hMe147, hcc147⟩ := Kd.V_get HO_1.out z28 x8_2 p147 (by first | exact q147 | exact of_decide_eq_true (by first | (with_reducible assumption) | assumption) | (have e_ := (Kd.V_reads' HO_1.out).1; omega)); obtain ⟨ua147_2, uc147_2, rfl, ul147_2, ge147_2⟩ := k28_openF hMe147; have hv147_2 := hcc147 2 _ rfl; rw [add_field _ _ 2 (by omega)] at hv147_2; replace hv147_2 := Option.some.inj (hv147_2.symm.trans hx147_2); injection hv147_2 with hva_ hvn_ hvc_; rw [hva_] at ge147_2; rw [hvc_] at ul147_2; have HL147_2 := Aside0.mk (show Kd.V Kd.string 9 _ w.heap.size _ _ ((rd_T28 l1 x8_2).f2) from Kd.V_mk ul147_2 ge147_2); clear hva_ hvn_ hvc_ ge147_2 ul147_2; clear hcc147 hce147; have HR147_2 := Aside0.mk hi147_2; have HC147_2 := Aside0.mk hl147_2; clear hi147_2 hl147_2; replace p147 := eq_true p147; replace q147 := eq_true q147; have ea_ := Option.some.inj (hx145_2.symm.trans hx147_2); injection ea_ with ea_ en_ ec_; subst ea_; subst ec_; clear en_; have p149 : 0 ≤ (x8_2 : Int) := of_decide_eq_true (by first | (with_reducible assumption) | assumption); have q149 : x8_2 < (l1.length : Int) := of_decide_eq_true (by first | (with_reducible assumption) | assumption); obtain ⟨ad149, A149_2, c149_2, e149, hx149_0, hx149_1, hx149_2, hl149_2, hi149_2⟩ := at_T28 (Kd.V_reads' HO_1.out).2.2 x8_2 p149 q149; obtain rfl : ad145 = ad149 := (by injection e149); obtain ⟨ce149, hce149, hMe149, hcc149⟩ := Kd.V_get HO_1.out z28 x8_2 p149 (by first | exact q149 | exact of_decide_eq_true (by first | (with_reducible assumption) | assumption) | (have e_ := (Kd.V_reads' HO_1.out).1; omega)); obtain ⟨ua149_2, uc149_2, rfl, ul149_2, ge149_2⟩ := k28_openF hMe149; have hv149_2 := hcc149 2 _ rfl; rw [add_field _ _ 2 (by omega)] at hv149_2; replace hv149_2 := Option.some.inj (hv149_2.symm.trans hx149_2); injection hv149_2 with hva_ hvn_ hvc_; rw [hva_] at ge149_2; rw [hvc_] at ul149_2; have HL149_2 := Aside0.mk (show Kd.V Kd.string 9 _ w.heap.size _ _ ((rd_T28 l1 x8_2).f2) from Kd.V_mk ul149_2 ge149_2); clear hva_ hvn_ hvc_ ge149_2 ul149_2; clear hcc149 hce149; have HR149_2 := Aside0.mk hi149_2; have HC149_2 := Aside0.mk hl149_2; clear hi149_2 hl149_2; replace p149 := eq_true p149; replace q149 := eq_true q149; have ea_ := Option.some.inj (hx145_2.symm.trans hx149_2); injection ea_ with ea_ en_ ec_; subst ea_; subst ec_; clear en_))
                        (try (rw [drewN_self wr]; generalize hq_ : World.drewN wr _ = wr; have n0_ : Aside0 (Kd.V Kd.string 9 wr w.heap.size (fun k_ => (P1_ k_ ∨ w.heap.size ≤ k_) ∧ some k_ ≠ (u7 : Value).ownBlock) (.slice A145_2 ((rd_T28 l1 x8_2).f2).length c145_2) ((rd_T28 l1 x8_2).f2)) := ⟨by rw [← hq_]; exact (by (with_reducible repeat (first | apply Kd.V_alloc | apply Kd.V_drewN | apply Kd.V_drew)); exact HL145_2.out)⟩; have n1_ : Aside0 (Kd.V Kd.string 9 wr w.heap.size (fun k_ => (P1_ k_ ∨ w.heap.size ≤ k_) ∧ some k_ ≠ (u7 : Value).ownBlock) (.slice A145_2 ((rd_T28 l1 x8_2).f2).length c145_2) ((rd_T28 l1 x8_2).f2)) := ⟨by rw [← hq_]; exact (by (with_reducible repeat (first | apply Kd.V_alloc | apply Kd.V_drewN | apply Kd.V_drew)); exact HL147_2.out)⟩; have n2_ : Aside0 (Kd.V Kd.string 9 wr w.heap.size (fun k_ => (P1_ k_ ∨ w.heap.size ≤ k_) ∧ some k_ ≠ (u7 : Value).ownBlock) (.slice A145_2 ((rd_T28 l1 x8_2).f2).length c145_2) ((rd_T28 l1 x8_2).f2)) := ⟨by rw [← hq_]; exact (by (with_reducible repeat (first | apply Kd.V_alloc | apply Kd.V_drewN | apply Kd.V_drew)); exact HL149_2.out)⟩; have n3_ : Aside0 (Kd.V k28 28 wr w.heap.size (fun k_ => (P1_ k_ ∨ w.heap.size ≤ k_) ∧ some k_ ≠ (u7 : Value).ownBlock) (.slice (some ad145) l1.length c1) l1) := ⟨by rw [← hq_]; exact (by (with_reducible repeat (first | apply Kd.V_alloc | apply Kd.V_drewN | apply Kd.V_drew)); exact HO_1.out)⟩; have n4_ : Aside0 (Kd.N k29 29 wr w.heap.size (fun k_ => (P1_ k_ ∨ w.heap.size ≤ k_)) u7 x7_2) := ⟨by rw [← hq_]; exact (by (with_reducible repeat (first | apply Kd.N_alloc | apply Kd.N_drewN | apply Kd.N_drew)); exact HO_7.out)⟩; have n5_ : Aside0 (Below w.heap.size w wr) := ⟨by rw [← hq_]; exact (by repeat (first | (with_reducible first | exact HB.out | apply below_alloc | apply pw_below_drewN | apply below_drew1) | exact HB.out))⟩; have n6_ : Aside0 (Kd.C Kd.string wr A145_2 ((rd_T28 l1 x8_2).f2).length ((rd_T28 l1 x8_2).f2)) := ⟨by rw [← hq_]; exact (by repeat (first | (with_reducible exact HR145_2.out) | (with_reducible refine Kd.C_alloc ?_ _) | (with_reducible refine Kd.C_drewN ?_ _) | (with_reducible refine Kd.C_drew ?_) | exact HR145_2.out))⟩; have n7_ : Aside0 (Kd.C Kd.string wr A145_2 ((rd_T28 l1 x8_2).f2).length ((rd_T28 l1 x8_2).f2)) := ⟨by rw [← hq_]; exact (by repeat (first | (with_reducible exact HR147_2.out) | (with_reducible refine Kd.C_alloc ?_ _) | (with_reducible refine Kd.C_drewN ?_ _) | (with_reducible refine Kd.C_drew ?_) | exact HR147_2.out))⟩; have n8_ : Aside0 (Kd.C Kd.string wr A145_2 ((rd_T28 l1 x8_2).f2).length ((rd_T28 l1 x8_2).f2)) := ⟨by rw [← hq_]; exact (by repeat (first | (with_reducible exact HR149_2.out) | (with_reducible refine Kd.C_alloc ?_ _) | (with_reducible refine Kd.C_drewN ?_ _) | (with_reducible refine Kd.C_drew ?_) | exact HR149_2.out))⟩; clear HL145_2 HL147_2 HL149_2 HO_1 HO_7 HB HR145_2 HR147_2 HR149_2 hq_; have HL145_2 := n0_; have HL147_2 := n1_; have HL149_2 := n2_; have HO_1 := n3_; have HO_7 := n4_; have HB := n5_; have HR145_2 := n6_; have HR147_2 := n7_; have HR149_2 := n8_; clear n0_ n1_ n2_ n3_ n4_ n5_ n6_ n7_ n8_))
                        have n0_ := Aside0.mk (Kd.V_drew HO_1.out)
                        have n1_ := Aside0.mk (Kd.N_drew HO_7.out)
                        have n2_ := Aside0.mk (Kd.V_drew HL145_2.out)
                        have n3_ := Aside0.mk (Kd.V_drew HL147_2.out)
                        have n4_ := Aside0.mk (Kd.V_drew HL149_2.out)
                        have n5_ := Aside0.mk (Kd.C_drew HR145_2.out)
                        have n6_ := Aside0.mk (Kd.C_drew HR147_2.out)
                        have n7_ := Aside0.mk (Kd.C_drew HR149_2.out)
                        have n8_ := Aside0.mk (below_drew1 HB.out)
                        clear HO_1
                        clear HO_7
                        clear HL145_2
                        clear HL147_2
                        clear HL149_2
                        clear HR145_2
                        clear HR147_2
                        clear HR149_2
                        clear HB
                        have HO_1 := n0_
                        have HO_7 := n1_
                        have HL145_2 := n2_
                        have HL147_2 := n3_
                        have HL149_2 := n4_
                        have HR145_2 := n5_
                        have HR147_2 := n6_
                        have HR149_2 := n7_
                        have HB := n8_
                        clear n0_ n1_ n2_ n3_ n4_ n5_ n6_ n7_ n8_
                        have p151 : 0 ≤ (x8_2 : Int) := of_decide_eq_true (by first | (with_reducible assumption) | assumption)
                        have q151 : x8_2 < (l1.length : Int) := of_decide_eq_true (by first | (with_reducible assumption) | assumption)
                        obtain ⟨ad151, A151_2, c151_2, e151, hx151_0, hx151_1, hx151_2, hl151_2, hi151_2⟩ := at_T28 (Kd.V_reads' HO_1.out).2.2 x8_2 p151 q151
                        obtain rfl : ad145 = ad151 := (by injection e151)
                        obtain ⟨ce151, hce151, hMe151, hcc151⟩ := Kd.V_get HO_1.out z28 x8_2 p151 (by first | exact q151 | exact of_decide_eq_true (by first | (with_reducible assumption) | assumption) | (have e_ := (Kd.V_reads' HO_1.out).1; omega))
                        obtain ⟨ua151_2, uc151_2, rfl, ul151_2, ge151_2⟩ := k28_openF hMe151
                        have hv151_2 := hcc151 2 _ rfl
                        rw [add_field _ _ 2 (by omega)] at hv151_2
                        replace hv151_2 := Option.some.inj (hv151_2.symm.trans hx151_2)
                        injection hv151_2 with hva_ hvn_ hvc_
                        rw [hva_] at ge151_2
                        rw [hvc_] at ul151_2
                        have HL151_2 := Aside0.mk (show Kd.V Kd.string 9 _ w.heap.size _ _ ((rd_T28 l1 x8_2).f2) from Kd.V_mk ul151_2 ge151_2)
                        clear hva_ hvn_ hvc_ ge151_2 ul151_2
                        clear hcc151 hce151
                        have HR151_2 := Aside0.mk hi151_2
                        have HC151_2 := Aside0.mk hl151_2
                        clear hi151_2 hl151_2
                        replace p151 := eq_true p151
                        replace q151 := eq_true q151
                        have p152 : 0 ≤ (x8_2 : Int) := of_decide_eq_true (by first | (with_reducible assumption) | assumption)
                        have q152 : x8_2 < (l1.length : Int) := of_decide_eq_true (by first | (with_reducible assumption) | assumption)
                        obtain ⟨ad152, A152_2, c152_2, e152, hx152_0, hx152_1, hx152_2, hl152_2, hi152_2⟩ := at_T28 (Kd.V_reads' HO_1.out).2.2 x8_2 p152 q152
                        obtain rfl : ad145 = ad152 := (by injection e152)
                        obtain ⟨ce152, hce152, hMe152, hcc152⟩ := Kd.V_get HO_1.out z28 x8_2 p152 (by first | exact q152 | exact of_decide_eq_true (by first | (with_reducible assumption) | assumption) | (have e_ := (Kd.V_reads' HO_1.out).1; omega))
                        obtain ⟨ua152_2, uc152_2, rfl, ul152_2, ge152_2⟩ := k28_openF hMe152
                        have hv152_2 := hcc152 2 _ rfl
                        rw [add_field _ _ 2 (by omega)] at hv152_2
                        replace hv152_2 := Option.some.inj (hv152_2.symm.trans hx152_2)
                        injection hv152_2 with hva_ hvn_ hvc_
                        rw [hva_] at ge152_2
                        rw [hvc_] at ul152_2
                        have HL152_2 := Aside0.mk (show Kd.V Kd.string 9 _ w.heap.size _ _ ((rd_T28 l1 x8_2).f2) from Kd.V_mk ul152_2 ge152_2)
                        clear hva_ hvn_ hvc_ ge152_2 ul152_2
                        clear hcc152 hce152
                        have HR152_2 := Aside0.mk hi152_2
                        have HC152_2 := Aside0.mk hl152_2
                        clear hi152_2 hl152_2
                        replace p152 := eq_true p152
                        replace q152 := eq_true q152
                        have ea_ := Option.some.inj (hx151_2.symm.trans hx152_2)
                        injection ea_ with ea_ en_ ec_
                        subst ea_
                        subst ec_
                        clear en_
                        have p153 : 0 ≤ (x8_2 : Int) := of_decide_eq_true (by first | (with_reducible assumption) | assumption)
                        have q153 : x8_2 < (l1.length : Int) := of_decide_eq_true (by first | (with_reducible assumption) | assumption)
                        obtain ⟨ad153, A153_2, c153_2, e153, hx153_0, hx153_1, hx153_2, hl153_2, hi153_2⟩ := at_T28 (Kd.V_reads' HO_1.out).2.2 x8_2 p153 q153
                        obtain rfl : ad145 = ad153 := (by injection e153)
                        obtain ⟨ce153, hce153, hMe153, hcc153⟩ := Kd.V_get HO_1.out z28 x8_2 p153 (by first | exact q153 | exact of_decide_eq_true (by first | (with_reducible assumption) | assumption) | (have e_ := (Kd.V_reads' HO_1.out).1; omega))
                        obtain ⟨ua153_2, uc153_2, rfl, ul153_2, ge153_2⟩ := k28_openF hMe153
                        have hv153_2 := hcc153 2 _ rfl
                        rw [add_field _ _ 2 (by omega)] at hv153_2
                        replace hv153_2 := Option.some.inj (hv153_2.symm.trans hx153_2)
                        injection hv153_2 with hva_ hvn_ hvc_
                        rw [hva_] at ge153_2
                        rw [hvc_] at ul153_2
                        have HL153_2 := Aside0.mk (show Kd.V Kd.string 9 _ w.heap.size _ _ ((rd_T28 l1 x8_2).f2) from Kd.V_mk ul153_2 ge153_2)
                        clear hva_ hvn_ hvc_ ge153_2 ul153_2
                        clear hcc153 hce153
                        have HR153_2 := Aside0.mk hi153_2
                        have HC153_2 := Aside0.mk hl153_2
                        clear hi153_2 hl153_2
                        replace p153 := eq_true p153
                        replace q153 := eq_true q153
                        have ea_ := Option.some.inj (hx151_2.symm.trans hx153_2)
                        injection ea_ with ea_ en_ ec_
                        subst ea_
                        subst ec_
                        clear en_
                        refine start_ (n := 20) (S := fun w' => w'.cell? (ad145.add ((x8_2).toNat * 3)) = some (.int .i64 ((rd_T28 l1 x8_2).f0)) ∧ w'.cell? ⟨(ad145.add ((x8_2).toNat * 3)).block, (ad145.add ((x8_2).toNat * 3)).off + 1, none⟩ = some (.int .i64 ((rd_T28 l1 x8_2).f1)) ∧ w'.cell? ⟨(ad145.add ((x8_2).toNat * 3)).block, (ad145.add ((x8_2).toNat * 3)).off + 2, none⟩ = some (.slice A151_2 ((rd_T28 l1 x8_2).f2).length c151_2) ∧ w'.cell? (ad145.add ((x8_2).toNat * 3)) = some (.int .i64 ((rd_T28 l1 x8_2).f0)) ∧ w'.cell? ⟨(ad145.add ((x8_2).toNat * 3)).block, (ad145.add ((x8_2).toNat * 3)).off + 1, none⟩ = some (.int .i64 ((rd_T28 l1 x8_2).f1)) ∧ w'.cell? ⟨(ad145.add ((x8_2).toNat * 3)).block, (ad145.add ((x8_2).toNat * 3)).off + 2, none⟩ = some (.slice A151_2 ((rd_T28 l1 x8_2).f2).length c151_2) ∧ w'.cell? (ad145.add ((x8_2).toNat * 3)) = some (.int .i64 ((rd_T28 l1 x8_2).f0)) ∧ w'.cell? ⟨(ad145.add ((x8_2).toNat * 3)).block, (ad145.add ((x8_2).toNat * 3)).off + 1, none⟩ = some (.int .i64 ((rd_T28 l1 x8_2).f1)) ∧ w'.cell? ⟨(ad145.add ((x8_2).toNat * 3)).block, (ad145.add ((x8_2).toNat * 3)).off + 2, none⟩ = some (.slice A151_2 ((rd_T28 l1 x8_2).f2).length c151_2)) (ds := [17, 18]) #[false, false, false, false, false, false, false, false, false, false, false, false, false, false, false, false, false, false, false, false] (by kernel_rfl) rfl rfl ⟨hx151_0, hx151_1, hx151_2, hx152_0, hx152_1, hx152_2, hx153_0, hx153_1, hx153_2⟩ (fun hHeld => ?_); refine with_tabW styluslaw51_HunksApplies.tab9 styluslaw51_HunksApplies.bits9 (fun HT_ HW_ => ?_)
                        generalize wr.drew = w22 at HO_1 HO_7 HL145_2 HL147_2 HL149_2 HR145_2 HR147_2 HR149_2 HB HL151_2 HL152_2 HL153_2 HR151_2 HR152_2 HR153_2 hx151_0 hx151_1 hx151_2 hx152_0 hx152_1 hx152_2 hx153_0 hx153_1 hx153_2 hHeld ⊢
                        refine pure_ (i := 0) (N := some 61) (v := ?_) (a' := ?_) #[true, false, false, false, false, false, false, false, false, false, false, false, false, false, false, false, false, false, false, false] rfl rfl (any_of HT_.out (by kernel_rfl)) (fun _ _ _ h => h) (Or.inl ⟨by rfl, ?_⟩) ?_ ?_
                        rotate_left
                        · intro w'
                          go_simp
                          with_reducible rfl
                        rotate_left
                        · simp only [Act.put, List.setIfInBounds_toArray, List.set_cons_zero, List.set_cons_succ, i64_w, i32_w]
                          rfl
                        refine pure_ (i := 1) (N := some 62) (v := ?_) (a' := ?_) #[true, true, false, false, false, false, false, false, false, false, false, false, false, false, false, false, false, false, false, false] rfl rfl (any_of HT_.out (by kernel_rfl)) (fun _ _ _ h => h) (Or.inl ⟨by rfl, ?_⟩) ?_ ?_
                        rotate_left
                        · intro w'
                          go_simp
                          with_reducible rfl
                        rotate_left
                        · simp only [Act.put, List.setIfInBounds_toArray, List.set_cons_zero, List.set_cons_succ, i64_w, i32_w]
                          rfl
                        refine pure_ (i := 2) (N := some 63) (v := ?_) (a' := ?_) #[true, true, true, false, false, false, false, false, false, false, false, false, false, false, false, false, false, false, false, false] rfl rfl (any_of HT_.out (by kernel_rfl)) (fun _ _ _ h => h) (Or.inl ⟨by rfl, ?_⟩) ?_ ?_
                        rotate_left
                        · intro w'
                          go_simp
                          with_reducible rfl
                        rotate_left
                        · simp only [Act.put, List.setIfInBounds_toArray, List.set_cons_zero, List.set_cons_succ, i64_w, i32_w]
                          rfl
                        refine pure_ (i := 3) (N := some 64) (v := ?_) (a' := ?_) #[true, true, true, true, false, false, false, false, false, false, false, false, false, false, false, false, false, false, false, false] rfl rfl (any_of HT_.out (by kernel_rfl)) (fun _ _ _ h => h) (Or.inl ⟨by rfl, ?_⟩) ?_ ?_
                        rotate_left
                        · intro w'
                          go_simp
                          with_reducible rfl
                        rotate_left
                        · simp only [Act.put, List.setIfInBounds_toArray, List.set_cons_zero, List.set_cons_succ, i64_w, i32_w]
                          rfl
                        refine pure_ (i := 4) (N := some 65) (v := ?_) (a' := ?_) #[true, true, true, true, true, false, false, false, false, false, false, false, false, false, false, false, false, false, false, false] rfl rfl (any_of HT_.out (by kernel_rfl)) (fun _ _ _ h => h) (Or.inl ⟨by rfl, ?_⟩) ?_ ?_
                        rotate_left
                        · intro w'
                          go_simp
                          with_reducible rfl
                        rotate_left
                        · simp only [Act.put, List.setIfInBounds_toArray, List.set_cons_zero, List.set_cons_succ, i64_w, i32_w]
                          rfl
                        refine pure_ (i := 6) (N := some 67) (v := ?_) (a' := ?_) #[true, true, true, true, true, false, true, false, false, false, false, false, false, false, false, false, false, false, false, false] rfl rfl (any_of HT_.out (by kernel_rfl)) (fun _ _ _ h => h) (Or.inl ⟨by rfl, ?_⟩) ?_ ?_
                        rotate_left
                        · intro w'
                          go_simp
                          with_reducible rfl
                        rotate_left
                        · simp only [Act.put, List.setIfInBounds_toArray, List.set_cons_zero, List.set_cons_succ, i64_w, i32_w]
                          rfl
                        refine pure_ (i := 7) (N := some 68) (v := ?_) (a' := ?_) #[true, true, true, true, true, false, true, true, false, false, false, false, false, false, false, false, false, false, false, false] rfl rfl (any_of HT_.out (by kernel_rfl)) (fun _ _ _ h => h) (Or.inl ⟨by rfl, ?_⟩) ?_ ?_
                        rotate_left
                        · intro w'
                          go_simp
                          with_reducible rfl
                        rotate_left
                        · simp only [Act.put, List.setIfInBounds_toArray, List.set_cons_zero, List.set_cons_succ, i64_w, i32_w]
                          rfl
                        refine pure_ (i := 8) (N := some 69) (v := ?_) (a' := ?_) #[true, true, true, true, true, false, true, true, true, false, false, false, false, false, false, false, false, false, false, false] rfl rfl (any_of HT_.out (by kernel_rfl)) (fun _ _ _ h => h) (Or.inl ⟨by rfl, ?_⟩) ?_ ?_
                        rotate_left
                        · intro w'
                          go_simp
                          with_reducible rfl
                        rotate_left
                        · simp only [Act.put, List.setIfInBounds_toArray, List.set_cons_zero, List.set_cons_succ, i64_w, i32_w]
                          rfl
                        refine pure_ (i := 9) (N := some 70) (v := ?_) (a' := ?_) #[true, true, true, true, true, false, true, true, true, true, false, false, false, false, false, false, false, false, false, false] rfl rfl (any_of HT_.out (by kernel_rfl)) (fun _ _ _ h => h) (Or.inl ⟨by rfl, ?_⟩) ?_ ?_
                        rotate_left
                        · intro w'
                          go_simp
                          with_reducible rfl
                        rotate_left
                        · simp only [Act.put, List.setIfInBounds_toArray, List.set_cons_zero, List.set_cons_succ, i64_w, i32_w]
                          rfl
                        refine pure_ (i := 11) (N := some 72) (v := ?_) (a' := ?_) #[true, true, true, true, true, false, true, true, true, true, false, true, false, false, false, false, false, false, false, false] rfl rfl (any_of HT_.out (by kernel_rfl)) (fun _ _ _ h => h) (Or.inl ⟨by rfl, ?_⟩) ?_ ?_
                        rotate_left
                        · intro w'
                          go_simp
                          with_reducible rfl
                        rotate_left
                        · simp only [Act.put, List.setIfInBounds_toArray, List.set_cons_zero, List.set_cons_succ, i64_w, i32_w]
                          rfl
                        refine pure_ (i := 12) (N := some 73) (v := ?_) (a' := ?_) #[true, true, true, true, true, false, true, true, true, true, false, true, true, false, false, false, false, false, false, false] rfl rfl (any_of HT_.out (by kernel_rfl)) (fun _ _ _ h => h) (Or.inl ⟨by rfl, ?_⟩) ?_ ?_
                        rotate_left
                        · intro w'
                          go_simp
                          with_reducible rfl
                        rotate_left
                        · simp only [Act.put, List.setIfInBounds_toArray, List.set_cons_zero, List.set_cons_succ, i64_w, i32_w]
                          rfl
                        refine pure_ (i := 13) (N := some 74) (v := ?_) (a' := ?_) #[true, true, true, true, true, false, true, true, true, true, false, true, true, true, false, false, false, false, false, false] rfl rfl (any_of HT_.out (by kernel_rfl)) (fun _ _ _ h => h) (Or.inl ⟨by rfl, ?_⟩) ?_ ?_
                        rotate_left
                        · intro w'
                          go_simp
                          with_reducible rfl
                        rotate_left
                        · simp only [Act.put, List.setIfInBounds_toArray, List.set_cons_zero, List.set_cons_succ, i64_w, i32_w]
                          rfl
                        refine pure_ (i := 14) (N := some 75) (v := ?_) (a' := ?_) #[true, true, true, true, true, false, true, true, true, true, false, true, true, true, true, false, false, false, false, false] rfl rfl (any_of HT_.out (by kernel_rfl)) (fun _ _ _ h => h) (Or.inl ⟨by rfl, ?_⟩) ?_ ?_
                        rotate_left
                        · intro w'
                          go_simp
                          with_reducible rfl
                        rotate_left
                        · simp only [Act.put, List.setIfInBounds_toArray, List.set_cons_zero, List.set_cons_succ, i64_w, i32_w]
                          rfl
                        refine take_ (i := 5) (N := some 66) (v := ?_) (a' := ?_) #[true, true, true, true, true, true, true, true, true, true, false, true, true, true, true, false, false, false, false, false] rfl rfl (take_ofW HT_.out HW_.out (by kernel_rfl)) (fun _ _ _ h => h) (Or.inl ⟨by rfl, ?_⟩) hHeld ?_ ?_
                        rotate_left
                        · rintro w' ⟨s0, s1, s2, s3, s4, s5, s6, s7, s8⟩
                          go_simp
                          with_reducible rfl
                        rotate_left
                        · simp only [Act.put, List.setIfInBounds_toArray, List.set_cons_zero, List.set_cons_succ, i64_w, i32_w]
                          rfl
                        refine take_ (i := 10) (N := some 71) (v := ?_) (a' := ?_) #[true, true, true, true, true, true, true, true, true, true, true, true, true, true, true, false, false, false, false, false] rfl rfl (take_ofW HT_.out HW_.out (by kernel_rfl)) (fun _ _ _ h => h) (Or.inl ⟨by rfl, ?_⟩) hHeld ?_ ?_
                        rotate_left
                        · rintro w' ⟨s0, s1, s2, s3, s4, s5, s6, s7, s8⟩
                          go_simp
                          with_reducible rfl
                        rotate_left
                        · simp only [Act.put, List.setIfInBounds_toArray, List.set_cons_zero, List.set_cons_succ, i64_w, i32_w]
                          rfl
                        refine take_ (i := 15) (N := some 76) (v := ?_) (a' := ?_) #[true, true, true, true, true, true, true, true, true, true, true, true, true, true, true, true, false, false, false, false] rfl rfl (take_ofW HT_.out HW_.out (by kernel_rfl)) (fun _ _ _ h => h) (Or.inl ⟨by rfl, ?_⟩) hHeld ?_ ?_
                        rotate_left
                        · rintro w' ⟨s0, s1, s2, s3, s4, s5, s6, s7, s8⟩
                          go_simp
                          with_reducible rfl
                        rotate_left
                        · simp only [Act.put, List.setIfInBounds_toArray, List.set_cons_zero, List.set_cons_succ, i64_w, i32_w]
                          rfl
                        refine pure_ (i := 16) (N := some 77) (v := ?_) (a' := ?_) #[true, true, true, true, true, true, true, true, true, true, true, true, true, true, true, true, true, false, false, false] rfl rfl (any_of HT_.out (by kernel_rfl)) (fun _ _ _ h => h) (Or.inl ⟨by rfl, ?_⟩) ?_ ?_
                        rotate_left
                        · intro w'
                          go_simp
                          with_reducible rfl
                        rotate_left
                        · simp only [Act.put, List.setIfInBounds_toArray, List.set_cons_zero, List.set_cons_succ, i64_w, i32_w]
                          rfl
                        refine last_ (i := 17) (N := some 78) #[true, true, true, true, true, true, true, true, true, true, true, true, true, true, true, true, true, true, false, false] rfl rfl (one_of HT_.out (by kernel_rfl)) (by decide) (fun K hK => ?_)
                        refine value_ (w1 := ?_) (v := ?_) (by rfl) rfl ?_ ?_
                        rotate_left 2
                        · go_simp
                          constructor
                          · rfl
                          · rfl
                        refine hK.out _ _ ?_
                        clear hK K
                        refine norm_ (a' := ?_) ?_ ?_
                        rotate_left
                        · show Act.put _ (some 78) _ = _
                          simp only [Act.put, List.setIfInBounds_toArray, List.set_cons_zero, List.set_cons_succ, i64_w, i32_w]
                          rfl
                        refine last_ (i := 18) (N := some 79) #[true, true, true, true, true, true, true, true, true, true, true, true, true, true, true, true, true, true, true, false] rfl rfl (one_of HT_.out (by kernel_rfl)) (by decide) (fun K hK => ?_)
                        refine Kd.N_append_step k29 (w0 := w) w.heap.size (by rfl) (.tmp 61) (.tmp 78) 26 29 (.agg #[(.int .i64 0), (.int .i64 0), (.slice none 0 0)]) 40 rfl Tryd.underlying26 info29 rfl (by decide) (by omega) u7 x7_2 (⟨(rd_T28 l1 x8_2).f0, (rd_T28 l1 x8_2).f1, (rd_T28 l1 x8_2).f2⟩ : S29) [.int .i64 ((rd_T28 l1 x8_2).f0), .int .i64 ((rd_T28 l1 x8_2).f1), .slice A151_2 ((rd_T28 l1 x8_2).f2).length c151_2] (fun k_ => (P1_ k_ ∨ w.heap.size ≤ k_)) (fun k_ => ((fun k_ => (P1_ k_ ∨ w.heap.size ≤ k_))) k_ ∧ some k_ ≠ (u7 : Value).ownBlock) rfl rfl ?aP (fun _ hk => hk) ?aF ?aO ?aB ?aS ?aL ?_
                        (case aP => exact (k29_mkF _ _ (⟨(rd_T28 l1 x8_2).f0, (rd_T28 l1 x8_2).f1, (rd_T28 l1 x8_2).f2⟩ : S29) (Kd.V_reads' (Kd.V_mono (ok' := (fun k_ => ((fun k_ => (P1_ k_ ∨ w.heap.size ≤ k_))) k_ ∧ some k_ ≠ (u7 : Value).ownBlock)) (HL153_2.out) (fun k_ hk => ⟨hk.1, hk.2⟩))).2.1 (Kd.V_F (Kd.V_mono (ok' := (fun k_ => ((fun k_ => (P1_ k_ ∨ w.heap.size ≤ k_))) k_ ∧ some k_ ≠ (u7 : Value).ownBlock)) (HL153_2.out) (fun k_ hk => ⟨hk.1, hk.2⟩)))))
                        (case aB => exact (by repeat (first | (with_reducible first | exact HB.out | apply below_alloc | apply pw_below_drewN | apply below_drew1) | exact HB.out)))
                        (case aF => exact (fun k_ hk => (.inr (Nat.le_trans (below_size (by repeat (first | (with_reducible first | exact HB.out | apply below_alloc | apply pw_below_drewN | apply below_drew1) | exact HB.out))) hk))))
                        (case aO => exact (by (with_reducible repeat (first | apply Kd.N_alloc | apply Kd.N_drewN | apply Kd.N_drew)); exact HO_7.out))
                        (case aS => exact (below_size (by repeat (first | (with_reducible first | exact HB.out | apply below_alloc | apply pw_below_drewN | apply below_drew1) | exact HB.out))))
                        (case aL => have := LMc21.out; omega)
                        intro v155 w23 ho hb hg hat
                        rw [← Ny154.out] at ho
                        have n0_ := Aside0.mk (Kd.V_afterv (ok := (fun k_ => (P1_ k_ ∨ w.heap.size ≤ k_))) (by (with_reducible repeat (first | apply Kd.V_alloc | apply Kd.V_drewN | apply Kd.V_drew)); exact HO_1.out) hg hat)
                        have n1_ := Aside0.mk (Kd.V_afterv (ok := (fun k_ => (P1_ k_ ∨ w.heap.size ≤ k_))) (by (with_reducible repeat (first | apply Kd.V_alloc | apply Kd.V_drewN | apply Kd.V_drew)); exact HL145_2.out) hg hat)
                        have n2_ := Aside0.mk (Kd.V_afterv (ok := (fun k_ => (P1_ k_ ∨ w.heap.size ≤ k_))) (by (with_reducible repeat (first | apply Kd.V_alloc | apply Kd.V_drewN | apply Kd.V_drew)); exact HL147_2.out) hg hat)
                        have n3_ := Aside0.mk (Kd.V_afterv (ok := (fun k_ => (P1_ k_ ∨ w.heap.size ≤ k_))) (by (with_reducible repeat (first | apply Kd.V_alloc | apply Kd.V_drewN | apply Kd.V_drew)); exact HL149_2.out) hg hat)
                        have n4_ := Aside0.mk (Kd.V_afterv (ok := (fun k_ => (P1_ k_ ∨ w.heap.size ≤ k_))) (by (with_reducible repeat (first | apply Kd.V_alloc | apply Kd.V_drewN | apply Kd.V_drew)); exact HL151_2.out) hg hat)
                        have n5_ := Aside0.mk (Kd.V_afterv (ok := (fun k_ => (P1_ k_ ∨ w.heap.size ≤ k_))) (by (with_reducible repeat (first | apply Kd.V_alloc | apply Kd.V_drewN | apply Kd.V_drew)); exact HL152_2.out) hg hat)
                        have n6_ := Aside0.mk (Kd.V_afterv (ok := (fun k_ => (P1_ k_ ∨ w.heap.size ≤ k_))) (by (with_reducible repeat (first | apply Kd.V_alloc | apply Kd.V_drewN | apply Kd.V_drew)); exact HL153_2.out) hg hat)
                        have n7_ := Aside0.mk (hb)
                        have n8_ := Aside0.mk (ho)
                        clear HO_1
                        clear HL145_2
                        clear HL147_2
                        clear HL149_2
                        clear HL151_2
                        clear HL152_2
                        clear HL153_2
                        clear HB
                        clear HO_7
                        have HO_1 := n0_
                        have HL145_2 := n1_
                        have HL147_2 := n2_
                        have HL149_2 := n3_
                        have HL151_2 := n4_
                        have HL152_2 := n5_
                        have HL153_2 := n6_
                        have HB := n7_
                        have HO156 := n8_
                        clear n0_ n1_ n2_ n3_ n4_ n5_ n6_ n7_ n8_
                        clear ho hb hg hat
                        refine hK.out _ _ ?_
                        clear hK K
                        refine norm_ (a' := ?_) ?_ ?_
                        rotate_left
                        · show Act.put _ (some 79) _ = _
                          simp only [Act.put, List.setIfInBounds_toArray, List.set_cons_zero, List.set_cons_succ, i64_w, i32_w]
                          rfl
                        refine pure_ (i := 19) (N := some 7) (v := ?_) (a' := ?_) #[true, true, true, true, true, true, true, true, true, true, true, true, true, true, true, true, true, true, true, true] rfl rfl (any_of HT_.out (by kernel_rfl)) (fun _ _ _ h => h) (Or.inl ⟨by rfl, ?_⟩) ?_ ?_
                        rotate_left
                        · intro w'
                          go_simp
                          with_reducible rfl
                        rotate_left
                        · simp only [Act.put, List.setIfInBounds_toArray, List.set_cons_zero, List.set_cons_succ, i64_w, i32_w]
                          rfl
                        refine done_ (done_of HT_.out (by kernel_rfl)) ?_
                        try go_wp2
                        go_roundg k2
                        case measure => have := HJ3.out; have := HK2.out; omega
                        case rel => exact ⟨(y154), (wrap64 (x8_2 + 1)), (by first | rfl | (simp; done) | (simp [*]; done)), H', ⟨by have := HJ3.out; have := HK2.out; omega⟩, ⟨by (with_reducible repeat (first | apply Kd.V_alloc | apply Kd.V_drewN | apply Kd.V_drew)); exact HO_1.out⟩, ⟨by (with_reducible repeat (first | apply Kd.N_alloc | apply Kd.N_drewN | apply Kd.N_drew)); exact HO156.out⟩, ⟨by repeat (first | (with_reducible first | exact HB.out | apply below_alloc | apply pw_below_drewN | apply below_drew1) | exact HB.out)⟩⟩
                      · rw [if_neg c21] at H
                        exact absurd H (by simp)
                · replace c14 := Bool.eq_false_iff.mpr c14
                  subst c14
                  have H1 : ((styluslaw51_lives.f).bind fun t157 => (some t157)) = some r := by rw [if_neg (show ¬ (false = true) by decide)] at H; exact H
                  clear H
                  have H := H1
                  clear H1
                  replace H := Option.bind_eq_some_iff.mp H
                  obtain ⟨t157, A240, H⟩ := H
                  replace H : (some t157) = some r := H
                  have A24 := Aside0.mk A240
                  clear A240
                  obtain rfl := Option.some.inj H
                  have p145 : 0 ≤ (x8_2 : Int) := of_decide_eq_true (by first | (with_reducible assumption) | assumption)
                  have q145 : x8_2 < (l1.length : Int) := of_decide_eq_true (by first | (with_reducible assumption) | assumption)
                  obtain ⟨ad145, A145_2, c145_2, e145, hx145_0, hx145_1, hx145_2, hl145_2, hi145_2⟩ := at_T28 (Kd.V_reads' HO_1.out).2.2 x8_2 p145 q145
                  cases e145
                  obtain ⟨ce145, hce145, hMe145, hcc145⟩ := Kd.V_get HO_1.out z28 x8_2 p145 (by first | exact q145 | exact of_decide_eq_true (by first | (with_reducible assumption) | assumption) | (have e_ := (Kd.V_reads' HO_1.out).1; omega))
                  obtain ⟨ua145_2, uc145_2, rfl, ul145_2, ge145_2⟩ := k28_openF hMe145
                  have hv145_2 := hcc145 2 _ rfl
                  rw [add_field _ _ 2 (by omega)] at hv145_2
                  replace hv145_2 := Option.some.inj (hv145_2.symm.trans hx145_2)
                  injection hv145_2 with hva_ hvn_ hvc_
                  rw [hva_] at ge145_2
                  rw [hvc_] at ul145_2
                  have HL145_2 := Aside0.mk (show Kd.V Kd.string 9 _ w.heap.size _ _ ((rd_T28 l1 x8_2).f2) from Kd.V_mk ul145_2 ge145_2)
                  clear hva_ hvn_ hvc_ ge145_2 ul145_2
                  clear hcc145 hce145
                  have HR145_2 := Aside0.mk hi145_2
                  have HC145_2 := Aside0.mk hl145_2
                  clear hi145_2 hl145_2
                  replace p145 := eq_true p145
                  replace q145 := eq_true q145
                  go_wp2_with (first | ((with_reducible refine gate_callee (f := 4) rfl ?_); refine goesL_ (some 42) rfl rfl Tryd.func4 (by kernel_rfl) rfl #[.slice A145_2 ((rd_T28 l1 x8_2).f2).length c145_2] rfl (by (try simp only [List.map_toArray, List.map_cons, List.map_nil]); first | done | rfl | (simp only [List.length_drop, List.length_take]; rfl)) ?_; (with_reducible refine (styluslaw51_few.calls k2 _ _ ((rd_T28 l1 x8_2).f2) false _ ?side1 ?side2 A13.out).mono ?_); (case side1 => repeat (first | exact (by repeat (first | (with_reducible exact HR145_2.out) | (with_reducible refine Kd.C_alloc ?_ _) | (with_reducible refine Kd.C_drewN ?_ _) | (with_reducible refine Kd.C_drew ?_) | exact HR145_2.out)) | (with_reducible refine Kd.C_alloc ?_ _) | (with_reducible refine Kd.C_drewN ?_ _) | (with_reducible refine Kd.C_drew ?_))); (case side2 => exact HC145_2.out); rintro e w' ⟨rfl, ⟨nd, rfl⟩⟩; refine ⟨_, rfl, ?_⟩) | ((with_reducible refine gate_callee (f := 5) rfl ?_); refine goesL_ (some 60) rfl rfl Tryd.func5 (by kernel_rfl) rfl #[] rfl (by (try simp only [List.map_toArray, List.map_cons, List.map_nil]); first | done | rfl | (simp only [List.length_drop, List.length_take]; rfl)) ?_; (with_reducible refine (styluslaw51_lives.calls  t157 _ A24.out).mono ?_); rintro e w25 ⟨rfl, hb⟩; refine ⟨_, rfl, ?_⟩; have n0_ := Aside0.mk (Kd.V_below (by (with_reducible repeat (first | apply Kd.V_alloc | apply Kd.V_drewN | apply Kd.V_drew)); exact HO_1.out) hb); have n1_ := Aside0.mk (Kd.N_below (by (with_reducible repeat (first | apply Kd.N_alloc | apply Kd.N_drewN | apply Kd.N_drew)); exact HO_7.out) hb); have n2_ := Aside0.mk (Kd.V_below (by (with_reducible repeat (first | apply Kd.V_alloc | apply Kd.V_drewN | apply Kd.V_drew)); exact HL145_2.out) hb); have n3_ := Aside0.mk (Kd.C_below (by repeat (first | (with_reducible exact HR145_2.out) | (with_reducible refine Kd.C_alloc ?_ _) | (with_reducible refine Kd.C_drewN ?_ _) | (with_reducible refine Kd.C_drew ?_) | exact HR145_2.out)) hb); have n4_ := Aside0.mk (below_step (by repeat (first | (with_reducible first | exact HB.out | apply below_alloc | apply pw_below_drewN | apply below_drew1) | exact HB.out)) hb); clear HO_1; clear HO_7; clear HL145_2; clear HR145_2; clear HB; have HO_1 := n0_; have HO_7 := n1_; have HL145_2 := n2_; have HR145_2 := n3_; have HB := n4_; clear n0_ n1_ n2_ n3_ n4_; (try clear hb); (try clear hb2); (try clear hk); (try clear hi)))
                  go_ret
                  exact ⟨by first | rfl | (simp [errW_none, errW_some] <;> rfl) | (simp [*, errW_none, errW_some] <;> rfl), by repeat (first | (with_reducible first | exact HB.out | apply below_alloc | apply pw_below_drewN | apply below_drew1) | exact HB.out)⟩
              · rw [if_neg c12] at H
                exact absurd H (by simp)
            · rw [if_neg c11] at H
              have c11b0 : decide (x8_2 < (l1.length : Int)) = false := decide_eq_false c11
              clear c11
              replace H := Option.bind_eq_some_iff.mp H
              obtain ⟨⟨t158, t159⟩, A260, H⟩ := H
              replace H : ((stylusref51_Apply.f k2 l0 l1).bind fun bt162 => ((hunks_Size.f k2 x7_2).bind fun bt166 => ((stylusref51_Size.f k2 l1).bind fun bt168 => ((stylusref51_Texts.f k2 t158 bt162.1).bind fun t170 => (if t170 = true then (if t159 = bt162.2 then (if bt166.1 = bt168.1 then (if bt166.2 = bt168.2 then ((hunks_Cut.f k2 a2).bind fun t171 => ((stylusref51_Cut.f k2 a2).bind fun t174 => ((stylusref51_Texts.f k2 t171 t174).bind fun t177 => (if t177 = true then ((styluslaw51_lives.f).bind fun t178 => (some t178)) else (none))))) else (none)) else (none)) else (none)) else (none)))))) = some r := H
              have A26 := Aside0.mk A260
              clear A260
              replace H := Option.bind_eq_some_iff.mp H
              obtain ⟨⟨t162, t163⟩, A270, H⟩ := H
              replace H : ((hunks_Size.f k2 x7_2).bind fun bt166 => ((stylusref51_Size.f k2 l1).bind fun bt168 => ((stylusref51_Texts.f k2 t158 t162).bind fun t170 => (if t170 = true then (if t159 = t163 then (if bt166.1 = bt168.1 then (if bt166.2 = bt168.2 then ((hunks_Cut.f k2 a2).bind fun t171 => ((stylusref51_Cut.f k2 a2).bind fun t174 => ((stylusref51_Texts.f k2 t171 t174).bind fun t177 => (if t177 = true then ((styluslaw51_lives.f).bind fun t178 => (some t178)) else (none))))) else (none)) else (none)) else (none)) else (none))))) = some r := H
              have A27 := Aside0.mk A270
              clear A270
              replace H := Option.bind_eq_some_iff.mp H
              obtain ⟨⟨t166, t167⟩, A280, H⟩ := H
              replace H : ((stylusref51_Size.f k2 l1).bind fun bt168 => ((stylusref51_Texts.f k2 t158 t162).bind fun t170 => (if t170 = true then (if t159 = t163 then (if t166 = bt168.1 then (if t167 = bt168.2 then ((hunks_Cut.f k2 a2).bind fun t171 => ((stylusref51_Cut.f k2 a2).bind fun t174 => ((stylusref51_Texts.f k2 t171 t174).bind fun t177 => (if t177 = true then ((styluslaw51_lives.f).bind fun t178 => (some t178)) else (none))))) else (none)) else (none)) else (none)) else (none)))) = some r := H
              have A28 := Aside0.mk A280
              clear A280
              replace H := Option.bind_eq_some_iff.mp H
              obtain ⟨⟨t168, t169⟩, A290, H⟩ := H
              replace H : ((stylusref51_Texts.f k2 t158 t162).bind fun t170 => (if t170 = true then (if t159 = t163 then (if t166 = t168 then (if t167 = t169 then ((hunks_Cut.f k2 a2).bind fun t171 => ((stylusref51_Cut.f k2 a2).bind fun t174 => ((stylusref51_Texts.f k2 t171 t174).bind fun t177 => (if t177 = true then ((styluslaw51_lives.f).bind fun t178 => (some t178)) else (none))))) else (none)) else (none)) else (none)) else (none))) = some r := H
              have A29 := Aside0.mk A290
              clear A290
              replace H := Option.bind_eq_some_iff.mp H
              obtain ⟨t170, A300, H⟩ := H
              replace H : (if t170 = true then (if t159 = t163 then (if t166 = t168 then (if t167 = t169 then ((hunks_Cut.f k2 a2).bind fun t171 => ((stylusref51_Cut.f k2 a2).bind fun t174 => ((stylusref51_Texts.f k2 t171 t174).bind fun t177 => (if t177 = true then ((styluslaw51_lives.f).bind fun t178 => (some t178)) else (none))))) else (none)) else (none)) else (none)) else (none)) = some r := H
              have A30 := Aside0.mk A300
              clear A300
              by_cases c31 : t170 = true
              · subst c31
                have H1 : (if t159 = t163 then (if t166 = t168 then (if t167 = t169 then ((hunks_Cut.f k2 a2).bind fun t171 => ((stylusref51_Cut.f k2 a2).bind fun t174 => ((stylusref51_Texts.f k2 t171 t174).bind fun t177 => (if t177 = true then ((styluslaw51_lives.f).bind fun t178 => (some t178)) else (none))))) else (none)) else (none)) else (none)) = some r := by rw [if_pos rfl] at H; exact H
                clear H
                have H := H1
                clear H1
                by_cases c32 : t159 = t163
                · rw [if_pos c32] at H
                  have c32b0 : (t159 == t163) = true := beq_iff_eq.mpr c32
                  have c32b1 : (t159 != t163) = false := bne_eq_false_iff_eq.mpr c32
                  clear c32
                  by_cases c33 : t166 = t168
                  · rw [if_pos c33] at H
                    have c33b0 : (t166 == t168) = true := beq_iff_eq.mpr c33
                    have c33b1 : (t166 != t168) = false := bne_eq_false_iff_eq.mpr c33
                    clear c33
                    by_cases c34 : t167 = t169
                    · rw [if_pos c34] at H
                      have c34b0 : (t167 == t169) = true := beq_iff_eq.mpr c34
                      have c34b1 : (t167 != t169) = false := bne_eq_false_iff_eq.mpr c34
                      clear c34
                      replace H := Option.bind_eq_some_iff.mp H
                      obtain ⟨t171, A350, H⟩ := H
                      replace H : ((stylusref51_Cut.f k2 a2).bind fun t174 => ((stylusref51_Texts.f k2 t171 t174).bind fun t177 => (if t177 = true then ((styluslaw51_lives.f).bind fun t178 => (some t178)) else (none)))) = some r := H
                      have A35 := Aside0.mk A350
                      clear A350
                      replace H := Option.bind_eq_some_iff.mp H
                      obtain ⟨t174, A360, H⟩ := H
                      replace H : ((stylusref51_Texts.f k2 t171 t174).bind fun t177 => (if t177 = true then ((styluslaw51_lives.f).bind fun t178 => (some t178)) else (none))) = some r := H
                      have A36 := Aside0.mk A360
                      clear A360
                      replace H := Option.bind_eq_some_iff.mp H
                      obtain ⟨t177, A370, H⟩ := H
                      replace H : (if t177 = true then ((styluslaw51_lives.f).bind fun t178 => (some t178)) else (none)) = some r := H
                      have A37 := Aside0.mk A370
                      clear A370
                      by_cases c38 : t177 = true
                      · subst c38
                        have H1 : ((styluslaw51_lives.f).bind fun t178 => (some t178)) = some r := by rw [if_pos rfl] at H; exact H
                        clear H
                        have H := H1
                        clear H1
                        replace H := Option.bind_eq_some_iff.mp H
                        obtain ⟨t178, A390, H⟩ := H
                        replace H : (some t178) = some r := H
                        have A39 := Aside0.mk A390
                        clear A390
                        obtain rfl := Option.some.inj H
                        obtain ⟨Ao40, co40, eo40⟩ := Kd.N_slice HO_7.out
                        subst eo40
                        go_wp2_with (first | ((with_reducible refine gate_callee (f := 6) rfl ?_); refine goesL_ (some 83) rfl rfl Tryd.func6 (by kernel_rfl) rfl #[.slice A0 l0.length c0, .slice Ao40 x7_2.length co40] rfl (by (try simp only [List.map_toArray, List.map_cons, List.map_nil]); first | done | rfl | (simp only [List.length_drop, List.length_take]; rfl)) ?_; (with_reducible refine (hunks_Apply.calls k2 _ _ l0 _ _ x7_2 t158 t159 _ ?side1 ?side2 ?side3 ?side4 A26.out).mono ?_); (case side1 => repeat (first | exact (Kd.C_below HR0.out HB.out) | (with_reducible refine Kd.C_alloc ?_ _) | (with_reducible refine Kd.C_drewN ?_ _) | (with_reducible refine Kd.C_drew ?_))); (case side2 => exact HC0.out); (case side3 => repeat (first | exact (Kd.N_reads' HO_7.out).2.2 | (with_reducible refine Kd.C_alloc ?_ _) | (with_reducible refine Kd.C_drewN ?_ _) | (with_reducible refine Kd.C_drew ?_))); (case side4 => exact (Kd.N_reads' HO_7.out).2.1); rintro e w41 ⟨v160, rfl, ho0, hb⟩; refine ⟨_, rfl, ?_⟩; have n0_ := Aside0.mk (Kd.V_elder' (by (with_reducible repeat (first | apply Kd.V_alloc | apply Kd.V_drewN | apply Kd.V_drew)); exact HO_1.out) (Kd.R_base ho0) hb); have n1_ := Aside0.mk (Kd.N_elder' (by (with_reducible repeat (first | apply Kd.N_alloc | apply Kd.N_drewN | apply Kd.N_drew)); exact HO_7.out) (Kd.R_base ho0) hb); have n2_ := Aside0.mk (Kd.R_lower (Kd.R_newM (M := fun k_ => (w.heap.size ≤ k_)) ho0 (below_size (by repeat (first | (with_reducible first | exact HB.out | apply below_alloc | apply pw_below_drewN | apply below_drew1) | exact HB.out))) (fun k_ h_ => h_)) (below_size (by repeat (first | (with_reducible first | exact HB.out | apply below_alloc | apply pw_below_drewN | apply below_drew1) | exact HB.out)))); have n3_ := Aside0.mk (below_step (by repeat (first | (with_reducible first | exact HB.out | apply below_alloc | apply pw_below_drewN | apply below_drew1) | exact HB.out)) hb); clear HO_1; clear HO_7; clear HB; have HO_1 := n0_; have HO_7 := n1_; have HO161 := n2_; have HB := n3_; clear n0_ n1_ n2_ n3_; (try clear hb); (try clear hb2); (try clear hk); (try clear hi); (try clear ho0)) | ((with_reducible refine gate_callee (f := 7) rfl ?_); refine goesL_ (some 89) rfl rfl Tryd.func7 (by kernel_rfl) rfl #[.slice A0 l0.length c0, .slice A1 l1.length c1] rfl (by (try simp only [List.map_toArray, List.map_cons, List.map_nil]); first | done | rfl | (simp only [List.length_drop, List.length_take]; rfl)) ?_; (with_reducible refine (stylusref51_Apply.calls k2 _ _ l0 _ _ l1 t162 t163 _ ?side1 ?side2 ?side3 ?side4 A27.out).mono ?_); (case side1 => repeat (first | exact (Kd.C_below HR0.out HB.out) | (with_reducible refine Kd.C_alloc ?_ _) | (with_reducible refine Kd.C_drewN ?_ _) | (with_reducible refine Kd.C_drew ?_))); (case side2 => exact HC0.out); (case side3 => repeat (first | exact (Kd.V_reads' HO_1.out).2.2 | (with_reducible refine Kd.C_alloc ?_ _) | (with_reducible refine Kd.C_drewN ?_ _) | (with_reducible refine Kd.C_drew ?_))); (case side4 => exact (Kd.V_reads' HO_1.out).2.1); rintro e w42 ⟨v164, rfl, ho0, hb⟩; refine ⟨_, rfl, ?_⟩; have n0_ := Aside0.mk (Kd.V_elder' (by (with_reducible repeat (first | apply Kd.V_alloc | apply Kd.V_drewN | apply Kd.V_drew)); exact HO_1.out) (Kd.R_base ho0) hb); have n1_ := Aside0.mk (Kd.N_elder' (by (with_reducible repeat (first | apply Kd.N_alloc | apply Kd.N_drewN | apply Kd.N_drew)); exact HO_7.out) (Kd.R_base ho0) hb); have n2_ := Aside0.mk (Kd.R_elder' (by (with_reducible repeat (first | apply Kd.R_alloc | apply Kd.R_drewN | apply Kd.R_drew)); exact HO161.out) (Kd.R_base ho0) hb); have n3_ := Aside0.mk (Kd.R_lower (Kd.R_new' (Kd.R_newM (M := fun k_ => (w.heap.size ≤ k_)) ho0 (below_size (by repeat (first | (with_reducible first | exact HB.out | apply below_alloc | apply pw_below_drewN | apply below_drew1) | exact HB.out))) (fun k_ h_ => h_)) (Kd.R_lt (by (with_reducible repeat (first | apply Kd.R_alloc | apply Kd.R_drewN | apply Kd.R_drew)); exact HO161.out))) (below_size (by repeat (first | (with_reducible first | exact HB.out | apply below_alloc | apply pw_below_drewN | apply below_drew1) | exact HB.out)))); have n4_ := Aside0.mk (below_step (by repeat (first | (with_reducible first | exact HB.out | apply below_alloc | apply pw_below_drewN | apply below_drew1) | exact HB.out)) hb); clear HO_1; clear HO_7; clear HO161; clear HB; have HO_1 := n0_; have HO_7 := n1_; have HO161 := n2_; have HO165 := n3_; have HB := n4_; clear n0_ n1_ n2_ n3_ n4_; (try clear hb); (try clear hb2); (try clear hk); (try clear hi); (try clear ho0)) | ((with_reducible refine gate_callee (f := 8) rfl ?_); refine goesL_ (some 94) rfl rfl Tryd.func8 (by kernel_rfl) rfl #[.slice Ao40 x7_2.length co40] rfl (by (try simp only [List.map_toArray, List.map_cons, List.map_nil]); first | done | rfl | (simp only [List.length_drop, List.length_take]; rfl)) ?_; (with_reducible refine (hunks_Size.calls k2 _ _ x7_2 t166 t167 _ ?side1 ?side2 A28.out).mono ?_); (case side1 => repeat (first | exact (Kd.N_reads' HO_7.out).2.2 | (with_reducible refine Kd.C_alloc ?_ _) | (with_reducible refine Kd.C_drewN ?_ _) | (with_reducible refine Kd.C_drew ?_))); (case side2 => exact (Kd.N_reads' HO_7.out).2.1); rintro e w43 ⟨rfl, hb⟩; refine ⟨_, rfl, ?_⟩; have n0_ := Aside0.mk (Kd.V_below (by (with_reducible repeat (first | apply Kd.V_alloc | apply Kd.V_drewN | apply Kd.V_drew)); exact HO_1.out) hb); have n1_ := Aside0.mk (Kd.N_below (by (with_reducible repeat (first | apply Kd.N_alloc | apply Kd.N_drewN | apply Kd.N_drew)); exact HO_7.out) hb); have n2_ := Aside0.mk (Kd.R_below (by (with_reducible repeat (first | apply Kd.R_alloc | apply Kd.R_drewN | apply Kd.R_drew)); exact HO161.out) hb); have n3_ := Aside0.mk (Kd.R_below (by (with_reducible repeat (first | apply Kd.R_alloc | apply Kd.R_drewN | apply Kd.R_drew)); exact HO165.out) hb); have n4_ := Aside0.mk (below_step (by repeat (first | (with_reducible first | exact HB.out | apply below_alloc | apply pw_below_drewN | apply below_drew1) | exact HB.out)) hb); clear HO_1; clear HO_7; clear HO161; clear HO165; clear HB; have HO_1 := n0_; have HO_7 := n1_; have HO161 := n2_; have HO165 := n3_; have HB := n4_; clear n0_ n1_ n2_ n3_ n4_; (try clear hb); (try clear hb2); (try clear hk); (try clear hi)) | ((with_reducible refine gate_callee (f := 9) rfl ?_); refine goesL_ (some 99) rfl rfl Tryd.func9 (by kernel_rfl) rfl #[.slice A1 l1.length c1] rfl (by (try simp only [List.map_toArray, List.map_cons, List.map_nil]); first | done | rfl | (simp only [List.length_drop, List.length_take]; rfl)) ?_; (with_reducible refine (stylusref51_Size.calls k2 _ _ l1 t168 t169 _ ?side1 ?side2 A29.out).mono ?_); (case side1 => repeat (first | exact (Kd.V_reads' HO_1.out).2.2 | (with_reducible refine Kd.C_alloc ?_ _) | (with_reducible refine Kd.C_drewN ?_ _) | (with_reducible refine Kd.C_drew ?_))); (case side2 => exact (Kd.V_reads' HO_1.out).2.1); rintro e w' ⟨rfl, ⟨nd, rfl⟩⟩; refine ⟨_, rfl, ?_⟩; obtain ⟨Ao44, co44, eo44⟩ := Kd.R_slice HO161.out; subst eo44; obtain ⟨Ao45, co45, eo45⟩ := Kd.R_slice HO165.out; subst eo45) | ((with_reducible refine gate_callee (f := 10) rfl ?_); refine goesL_ (some 104) rfl rfl Tryd.func10 (by kernel_rfl) rfl #[.slice Ao44 t158.length co44, .slice Ao45 t162.length co45] rfl (by (try simp only [List.map_toArray, List.map_cons, List.map_nil]); first | done | rfl | (simp only [List.length_drop, List.length_take]; rfl)) ?_; (with_reducible refine (stylusref51_Texts.calls k2 _ _ t158 _ _ t162 true _ ?side1 ?side2 ?side3 ?side4 A30.out).mono ?_); (case side1 => repeat (first | exact (Kd.R_reads' HO161.out).2.2 | (with_reducible refine Kd.C_alloc ?_ _) | (with_reducible refine Kd.C_drewN ?_ _) | (with_reducible refine Kd.C_drew ?_))); (case side2 => exact (Kd.R_reads' HO161.out).2.1); (case side3 => repeat (first | exact (Kd.R_reads' HO165.out).2.2 | (with_reducible refine Kd.C_alloc ?_ _) | (with_reducible refine Kd.C_drewN ?_ _) | (with_reducible refine Kd.C_drew ?_))); (case side4 => exact (Kd.R_reads' HO165.out).2.1); rintro e w' ⟨rfl, ⟨nd, rfl⟩⟩; refine ⟨_, rfl, ?_⟩) | (go_at_call 11; (with_reducible refine (hunks_Cut.calls k2 a2 t171 _ A35.out).mono ?_); rintro e w46 ⟨v172, rfl, ho0, hb⟩; have n0_ := Aside0.mk (Kd.V_elder' (by (with_reducible repeat (first | apply Kd.V_alloc | apply Kd.V_drewN | apply Kd.V_drew)); exact HO_1.out) (Kd.R_base ho0) hb); have n1_ := Aside0.mk (Kd.N_elder' (by (with_reducible repeat (first | apply Kd.N_alloc | apply Kd.N_drewN | apply Kd.N_drew)); exact HO_7.out) (Kd.R_base ho0) hb); have n2_ := Aside0.mk (Kd.R_elder' (by (with_reducible repeat (first | apply Kd.R_alloc | apply Kd.R_drewN | apply Kd.R_drew)); exact HO161.out) (Kd.R_base ho0) hb); have n3_ := Aside0.mk (Kd.R_elder' (by (with_reducible repeat (first | apply Kd.R_alloc | apply Kd.R_drewN | apply Kd.R_drew)); exact HO165.out) (Kd.R_base ho0) hb); have n4_ := Aside0.mk (Kd.R_lower (Kd.R_new' (Kd.R_new' (Kd.R_newM (M := fun k_ => (w.heap.size ≤ k_)) ho0 (below_size (by repeat (first | (with_reducible first | exact HB.out | apply below_alloc | apply pw_below_drewN | apply below_drew1) | exact HB.out))) (fun k_ h_ => h_)) (Kd.R_lt (by (with_reducible repeat (first | apply Kd.R_alloc | apply Kd.R_drewN | apply Kd.R_drew)); exact HO161.out))) (Kd.R_lt (by (with_reducible repeat (first | apply Kd.R_alloc | apply Kd.R_drewN | apply Kd.R_drew)); exact HO165.out))) (below_size (by repeat (first | (with_reducible first | exact HB.out | apply below_alloc | apply pw_below_drewN | apply below_drew1) | exact HB.out)))); have n5_ := Aside0.mk (below_step (by repeat (first | (with_reducible first | exact HB.out | apply below_alloc | apply pw_below_drewN | apply below_drew1) | exact HB.out)) hb); clear HO_1; clear HO_7; clear HO161; clear HO165; clear HB; have HO_1 := n0_; have HO_7 := n1_; have HO161 := n2_; have HO165 := n3_; have HO173 := n4_; have HB := n5_; clear n0_ n1_ n2_ n3_ n4_ n5_; (try clear hb); (try clear hb2); (try clear hk); (try clear hi); (try clear ho0)) | (go_at_call 12; (with_reducible refine (stylusref51_Cut.calls k2 a2 t174 _ A36.out).mono ?_); rintro e w47 ⟨v175, rfl, ho0, hb⟩; have n0_ := Aside0.mk (Kd.V_elder' (by (with_reducible repeat (first | apply Kd.V_alloc | apply Kd.V_drewN | apply Kd.V_drew)); exact HO_1.out) (Kd.R_base ho0) hb); have n1_ := Aside0.mk (Kd.N_elder' (by (with_reducible repeat (first | apply Kd.N_alloc | apply Kd.N_drewN | apply Kd.N_drew)); exact HO_7.out) (Kd.R_base ho0) hb); have n2_ := Aside0.mk (Kd.R_elder' (by (with_reducible repeat (first | apply Kd.R_alloc | apply Kd.R_drewN | apply Kd.R_drew)); exact HO161.out) (Kd.R_base ho0) hb); have n3_ := Aside0.mk (Kd.R_elder' (by (with_reducible repeat (first | apply Kd.R_alloc | apply Kd.R_drewN | apply Kd.R_drew)); exact HO165.out) (Kd.R_base ho0) hb); have n4_ := Aside0.mk (Kd.R_elder' (by (with_reducible repeat (first | apply Kd.R_alloc | apply Kd.R_drewN | apply Kd.R_drew)); exact HO173.out) (Kd.R_base ho0) hb); have n5_ := Aside0.mk (Kd.R_lower (Kd.R_new' (Kd.R_new' (Kd.R_new' (Kd.R_newM (M := fun k_ => (w.heap.size ≤ k_)) ho0 (below_size (by repeat (first | (with_reducible first | exact HB.out | apply below_alloc | apply pw_below_drewN | apply below_drew1) | exact HB.out))) (fun k_ h_ => h_)) (Kd.R_lt (by (with_reducible repeat (first | apply Kd.R_alloc | apply Kd.R_drewN | apply Kd.R_drew)); exact HO161.out))) (Kd.R_lt (by (with_reducible repeat (first | apply Kd.R_alloc | apply Kd.R_drewN | apply Kd.R_drew)); exact HO165.out))) (Kd.R_lt (by (with_reducible repeat (first | apply Kd.R_alloc | apply Kd.R_drewN | apply Kd.R_drew)); exact HO173.out))) (below_size (by repeat (first | (with_reducible first | exact HB.out | apply below_alloc | apply pw_below_drewN | apply below_drew1) | exact HB.out)))); have n6_ := Aside0.mk (below_step (by repeat (first | (with_reducible first | exact HB.out | apply below_alloc | apply pw_below_drewN | apply below_drew1) | exact HB.out)) hb); clear HO_1; clear HO_7; clear HO161; clear HO165; clear HO173; clear HB; have HO_1 := n0_; have HO_7 := n1_; have HO161 := n2_; have HO165 := n3_; have HO173 := n4_; have HO176 := n5_; have HB := n6_; clear n0_ n1_ n2_ n3_ n4_ n5_ n6_; (try clear hb); (try clear hb2); (try clear hk); (try clear hi); (try clear ho0); obtain ⟨Ao48, co48, eo48⟩ := Kd.R_slice HO173.out; subst eo48; obtain ⟨Ao49, co49, eo49⟩ := Kd.R_slice HO176.out; subst eo49) | (go_at_call 10; (with_reducible refine (stylusref51_Texts.calls k2 _ _ t171 _ _ t174 true _ ?side1 ?side2 ?side3 ?side4 A37.out).mono ?_); (case side1 => repeat (first | exact (Kd.R_reads' HO173.out).2.2 | (with_reducible refine Kd.C_alloc ?_ _) | (with_reducible refine Kd.C_drewN ?_ _) | (with_reducible refine Kd.C_drew ?_))); (case side2 => exact (Kd.R_reads' HO173.out).2.1); (case side3 => repeat (first | exact (Kd.R_reads' HO176.out).2.2 | (with_reducible refine Kd.C_alloc ?_ _) | (with_reducible refine Kd.C_drewN ?_ _) | (with_reducible refine Kd.C_drew ?_))); (case side4 => exact (Kd.R_reads' HO176.out).2.1); rintro e w' ⟨rfl, ⟨nd, rfl⟩⟩) | (go_at_call 5; (with_reducible refine (styluslaw51_lives.calls  t178 _ A39.out).mono ?_); rintro e w50 ⟨rfl, hb⟩; have n0_ := Aside0.mk (Kd.V_below (by (with_reducible repeat (first | apply Kd.V_alloc | apply Kd.V_drewN | apply Kd.V_drew)); exact HO_1.out) hb); have n1_ := Aside0.mk (Kd.N_below (by (with_reducible repeat (first | apply Kd.N_alloc | apply Kd.N_drewN | apply Kd.N_drew)); exact HO_7.out) hb); have n2_ := Aside0.mk (Kd.R_below (by (with_reducible repeat (first | apply Kd.R_alloc | apply Kd.R_drewN | apply Kd.R_drew)); exact HO161.out) hb); have n3_ := Aside0.mk (Kd.R_below (by (with_reducible repeat (first | apply Kd.R_alloc | apply Kd.R_drewN | apply Kd.R_drew)); exact HO165.out) hb); have n4_ := Aside0.mk (Kd.R_below (by (with_reducible repeat (first | apply Kd.R_alloc | apply Kd.R_drewN | apply Kd.R_drew)); exact HO173.out) hb); have n5_ := Aside0.mk (Kd.R_below (by (with_reducible repeat (first | apply Kd.R_alloc | apply Kd.R_drewN | apply Kd.R_drew)); exact HO176.out) hb); have n6_ := Aside0.mk (below_step (by repeat (first | (with_reducible first | exact HB.out | apply below_alloc | apply pw_below_drewN | apply below_drew1) | exact HB.out)) hb); clear HO_1; clear HO_7; clear HO161; clear HO165; clear HO173; clear HO176; clear HB; have HO_1 := n0_; have HO_7 := n1_; have HO161 := n2_; have HO165 := n3_; have HO173 := n4_; have HO176 := n5_; have HB := n6_; clear n0_ n1_ n2_ n3_ n4_ n5_ n6_; (try clear hb); (try clear hb2); (try clear hk); (try clear hi)))
                        go_ret
                        exact ⟨by first | rfl | (simp [errW_none, errW_some] <;> rfl) | (simp [*, errW_none, errW_some] <;> rfl), by repeat (first | (with_reducible first | exact HB.out | apply below_alloc | apply pw_below_drewN | apply below_drew1) | exact HB.out)⟩
                      · replace c38 := Bool.eq_false_iff.mpr c38
                        subst c38
                        have H1 : (none) = some r := by rw [if_neg (show ¬ (false = true) by decide)] at H; exact H
                        clear H
                        have H := H1
                        clear H1
                        exact absurd H (by simp)
                    · rw [if_neg c34] at H
                      exact absurd H (by simp)
                  · rw [if_neg c33] at H
                    exact absurd H (by simp)
                · rw [if_neg c32] at H
                  exact absurd H (by simp)
              · replace c31 := Bool.eq_false_iff.mpr c31
                subst c31
                have H1 : (none) = some r := by rw [if_neg (show ¬ (false = true) by decide)] at H; exact H
                clear H
                have H := H1
                clear H1
                exact absurd H (by simp)

/-- THE ONE PURE STATEMENT of styluslaw51_HunksApplies. -/
def styluslaw51_HunksApplies.Pure : Prop := ∀ (x0 : List ByteArray) (x1 : List (S28)) (x2 : ByteArray), (x0.length ≤ 140737488351232 ∧ ∀ y_x0 ∈ x0, y_x0.size ≤ 140737488351232) → (x1.length ≤ 140737488351232 ∧ ∀ y_x1 ∈ x1, B28 y_x1) → x2.size ≤ 140737488351232 → ∃ k, styluslaw51_HunksApplies.f k x0 x1 x2 = some true

end Go.Proofs.YtgcilgjkihmclaaDoor.P
