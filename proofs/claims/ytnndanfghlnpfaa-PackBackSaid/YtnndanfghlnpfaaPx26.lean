import Derived.Test.YtnndanfghlnpfaaPx0
import Derived.Test.YtnndanfghlnpfaaPx3
import Derived.Test.YtnndanfghlnpfaaPx9
import Derived.Test.YtnndanfghlnpfaaPx11
import Derived.Test.YtnndanfghlnpfaaPx12
import Derived.Test.YtnndanfghlnpfaaPx24
namespace Go.Proofs.Ytnndanfghlnpfaa.P
open Go.RowKit Go.Proofs.YtnndanfghlnpfaaW.PrintWords Go.Proofs.YtnndanfghlnpfaaW.PrintLast Go.Proofs.YtnndanfghlnpfaaW.PrintMore
attribute [local go_sem] max2_int min2_int max_two min_two max_three min_three max_four min_four   -- for this text's walks alone
set_option linter.unusedVariables false
set_option linter.unusedSimpArgs false
/-! ### sl28PackBack: function 5 -/
mutual
def sl28PackBack.j0 : Nat → ByteArray → Int → Bool → ByteArray → List (S49) → List (S38) → List (S38) → Bool → List (S88) → Option (Bool)
 | 0, _, _, _, _, _, _, _, _, _ => none
 | k + 1, x1, x2, x24, x490000, x490001, x490002, x490003, x490004, x490005 => if x24 = true then ((sl28lives.f k).bind fun t491 => (some t491)) else ((pack_Lay.f k x490000 x490001 x490002 x490003 x490004 x490005).bind fun bt492 => (if bt492.2 = 0 then ((pack_Read.f k bt492.1).bind fun bt494 => ((sr25Same.f k bt494.1 bt494.2.1 bt494.2.2.1 bt494.2.2.2.1 bt494.2.2.2.2.1 bt494.2.2.2.2.2.1 x490000 x490001 x490002 x490003 x490004 x490005).bind fun t510 => (if t510 = true then (sl28PackBack.j1 k x1 x2 bt492.1 (bt494.2.2.2.2.2.2 != 0)) else (none)))) else (sl28PackBack.j3 k x1)))
def sl28PackBack.j3 : Nat → ByteArray → Option (Bool)
 | 0, _ => none
 | k + 1, x1 => (pack_Read.f k x1).bind fun bt527 => (if bt527.2.2.2.2.2.2 = 0 then ((pack_Lay.f k bt527.1 bt527.2.1 bt527.2.2.1 bt527.2.2.2.1 bt527.2.2.2.2.1 bt527.2.2.2.2.2.1).bind fun bt543 => (if bt543.1.toList = x1.toList then (if bt543.2 = 0 then ((sl28lives.f k).bind fun t545 => (some t545)) else (none)) else (none))) else ((sr25Same.f k bt527.1 bt527.2.1 bt527.2.2.1 bt527.2.2.2.1 bt527.2.2.2.2.1 bt527.2.2.2.2.2.1 (⟨#[]⟩ : ByteArray) ([] : List (S49)) ([] : List (S38)) ([] : List (S38)) false ([] : List (S88))).bind fun t546 => (if t546 = true then ((sl28lives.f k).bind fun t547 => (some t547)) else (none))))
def sl28PackBack.j1 : Nat → ByteArray → Int → ByteArray → Bool → Option (Bool)
 | 0, _, _, _, _ => none
 | k + 1, x1, x2, x7, x45 => if x45 = true then (none) else (if x2 ≥ 0 then (sl28PackBack.j2 k x1 x2 x7 (decide (x2 < (x7.size : Int)))) else (sl28PackBack.j2 k x1 x2 x7 false))
def sl28PackBack.j2 : Nat → ByteArray → Int → ByteArray → Bool → Option (Bool)
 | 0, _, _, _, _ => none
 | k + 1, x1, x2, x7, x53 => if x53 = true then (if 0 ≤ x2 then (if x2 ≤ (x7.size : Int) then ((pack_Read.f k (x7.extract 0 (x2 : Int).toNat)).bind fun bt511 => (if bt511.2.2.2.2.2.2 = 18 then (sl28PackBack.j3 k x1) else (none))) else (none)) else (none)) else (sl28PackBack.j3 k x1)
end
def sl28PackBack.f (k : Nat) (a0_0 : ByteArray) (l0_1 : List (S49)) (l0_2 : List (S38)) (l0_3 : List (S38)) (a0_4 : Bool) (l0_5 : List (S88)) (a1 : ByteArray) (a2 : Int) : Option (Bool) := (sr25Few.f k a0_0 l0_1 l0_2 l0_3 a0_4 l0_5).bind fun t490 => (if t490 = true then (sl28PackBack.j0 k a1 a2 (decide ((a1.size : Int) > 3000)) a0_0 l0_1 l0_2 l0_3 a0_4 l0_5) else (sl28PackBack.j0 k a1 a2 true a0_0 l0_1 l0_2 l0_3 a0_4 l0_5))
set_option maxHeartbeats 8000000 in
set_option maxRecDepth 100000 in
theorem sl28PackBack.calls (k : Nat) (a0_0 : ByteArray) (A0_1 : Option Addr) (c0_1 : Nat) (l0_1 : List (S49)) (A0_2 : Option Addr) (c0_2 : Nat) (l0_2 : List (S38)) (A0_3 : Option Addr) (c0_3 : Nat) (l0_3 : List (S38)) (a0_4 : Bool) (A0_5 : Option Addr) (c0_5 : Nat) (l0_5 : List (S88)) (a1 : ByteArray) (a2 : Int) (r : Bool) (w : World) (hr0_1 : Kd.C k49 w A0_1 l0_1.length l0_1) (hc0_1 : l0_1.length ≤ c0_1) (hr0_2 : Kd.C k38 w A0_2 l0_2.length l0_2) (hc0_2 : l0_2.length ≤ c0_2) (hr0_3 : Kd.C k38 w A0_3 l0_3.length l0_3) (hc0_3 : l0_3.length ≤ c0_3) (hr0_5 : Kd.C k88 w A0_5 l0_5.length l0_5) (hc0_5 : l0_5.length ≤ c0_5) (h : sl28PackBack.f k a0_0 l0_1 l0_2 l0_3 a0_4 l0_5 a1 a2 = some r) :
  Calls Try.prog 5 #[.agg #[.string a0_0, .slice A0_1 l0_1.length c0_1, .slice A0_2 l0_2.length c0_2, .slice A0_3 l0_3.length c0_3, .bool a0_4, .slice A0_5 l0_5.length c0_5], .string a1, .int .i64 a2] w fun e w' => e = .returned (.bool r) ∧ Below w.heap.size w w' := by
 have hu26 := Try.underlying26
 have HR0_1 := aS_ hr0_1
 have HC0_1 := aS_ hc0_1
 clear hr0_1 hc0_1
 have HR0_2 := aS_ hr0_2
 have HC0_2 := aS_ hc0_2
 clear hr0_2 hc0_2
 have HR0_3 := aS_ hr0_3
 have HC0_3 := aS_ hc0_3
 clear hr0_3 hc0_3
 have HR0_5 := aS_ hr0_5
 have HC0_5 := aS_ hc0_5
 clear hr0_5 hc0_5
 have HB := aS_ (Below.refl w.heap.size w)
 have H : ((sr25Few.f k a0_0 l0_1 l0_2 l0_3 a0_4 l0_5).bind fun t490 => (if t490 = true then (sl28PackBack.j0 k a1 a2 (decide ((a1.size : Int) > 3000)) a0_0 l0_1 l0_2 l0_3 a0_4 l0_5) else (sl28PackBack.j0 k a1 a2 true a0_0 l0_1 l0_2 l0_3 a0_4 l0_5))) = some r := h
 clear h
 have HC4 := aS_ H
 clear H
 go_enter Try.func5, Try.ntmps5
 go_upto_region 1 with (first | ((with_reducible refine gate_dst (N := 3) rfl ?_); (try (refine gate_guard (by rfl) ?_; dsimp only)); refine box_event ?hg (N := 3) ?hd (cs := #[.string a0_0, .slice A0_1 l0_1.length c0_1, .slice A0_2 l0_2.length c0_2, .slice A0_3 l0_3.length c0_3, .bool a0_4, .slice A0_5 l0_5.length c0_5]) (t := 26) ?hr ?_; (case hd => rfl); (case hg => rfl); (case hr => first | (go_simp; done) | (go_simp; rfl)); intro gb489 hg w5 hbox hb; have n0_ := aS_ (below_step (by repeat (first | (with_reducible first | exact HB.out | apply wA | apply wN | apply w1_) | exact HB.out)) hb); have n1_ := aS_ (hbox); have n2_ := aS_ ((by rw [hg]; exact (below_size (by repeat (first | (with_reducible first | exact HB.out | apply wA | apply wN | apply w1_) | exact HB.out))) : w.heap.size ≤ gb489)); have n3_ := n2_; clear HB; have HB := n0_; have BK489 := n1_; have GW489 := n2_; have GE489 := n3_; clear n0_ n1_ n2_ n3_; clear hb hbox hg))
 (try simp only [Act.put, List.setIfInBounds_toArray, List.set_cons_zero, List.set_cons_succ])
 go_cut [24] (fun v24 wc => ∃ (kq : Nat) (x24_3 : Bool), v24 = .bool x24_3 ∧ Aside0 (sl28PackBack.j0 kq a1 a2 x24_3 a0_0 l0_1 l0_2 l0_3 a0_4 l0_5 = some r) ∧ Aside0 (kq ≤ k) ∧ Aside0 (wc.heap[gb489]? = some (.cells #[.string a0_0, (.slice A0_1 l0_1.length c0_1), (.slice A0_2 l0_2.length c0_2), (.slice A0_3 l0_3.length c0_3), .bool a0_4, (.slice A0_5 l0_5.length c0_5)] 26 (0, 0))) ∧ Aside0 (Below w.heap.size w wc))
 case first =>
  have H := HC4.out
  clear HC4
  replace H := Option.bind_eq_some_iff.mp H
  obtain ⟨t490, A60, H⟩ := H
  replace H : (if t490 = true then (sl28PackBack.j0 k a1 a2 (decide ((a1.size : Int) > 3000)) a0_0 l0_1 l0_2 l0_3 a0_4 l0_5) else (sl28PackBack.j0 k a1 a2 true a0_0 l0_1 l0_2 l0_3 a0_4 l0_5)) = some r := H
  have A6 := aS_ A60
  clear A60
  by_cases c7 : t490 = true
  ·subst c7
   have H1 : (sl28PackBack.j0 k a1 a2 (decide ((a1.size : Int) > 3000)) a0_0 l0_1 l0_2 l0_3 a0_4 l0_5) = some r := by rw [if_pos rfl] at H; exact H
   clear H
   have H := H1
   clear H1
   have H' := aS_ H
   clear H
   obtain ⟨hcz8_0, hcz8_1, hcz8_2, hcz8_3, hcz8_4, hcz8_5, hfz8_0, hfz8_1, hfz8_2, hfz8_3, hfz8_4, hfz8_5⟩ := c6_ BK489.out
   go_wp2_with (first | ((with_reducible refine gate_callee (f := 6) rfl ?_); refine goesL_ (some 18) rfl rfl Try.func6 (by kernel_rfl) rfl #[.agg #[.string a0_0, .slice A0_1 l0_1.length c0_1, .slice A0_2 l0_2.length c0_2, .slice A0_3 l0_3.length c0_3, .bool a0_4, .slice A0_5 l0_5.length c0_5]] rfl (by (try simp only [List.map_toArray, List.map_cons, List.map_nil]); first | done | rfl | (simp only [List.length_drop, List.length_take]; rfl)) ?_; (with_reducible refine (sr25Few.calls k a0_0 _ _ l0_1 _ _ l0_2 _ _ l0_3 a0_4 _ _ l0_5 true _ ?side1 ?side2 ?side3 ?side4 ?side5 ?side6 ?side7 ?side8 A6.out).mono ?_); (case side1 => repeat (first | exact (Kd.C_below HR0_1.out HB.out) | (with_reducible refine Kd.C_alloc ?_ _) | (with_reducible refine Kd.C_drewN ?_ _) | (with_reducible refine Kd.C_drew ?_))); (case side2 => exact HC0_1.out); (case side3 => repeat (first | exact (Kd.C_below HR0_2.out HB.out) | (with_reducible refine Kd.C_alloc ?_ _) | (with_reducible refine Kd.C_drewN ?_ _) | (with_reducible refine Kd.C_drew ?_))); (case side4 => exact HC0_2.out); (case side5 => repeat (first | exact (Kd.C_below HR0_3.out HB.out) | (with_reducible refine Kd.C_alloc ?_ _) | (with_reducible refine Kd.C_drewN ?_ _) | (with_reducible refine Kd.C_drew ?_))); (case side6 => exact HC0_3.out); (case side7 => repeat (first | exact (Kd.C_below HR0_5.out HB.out) | (with_reducible refine Kd.C_alloc ?_ _) | (with_reducible refine Kd.C_drewN ?_ _) | (with_reducible refine Kd.C_drew ?_))); (case side8 => exact HC0_5.out); rintro e w9 ⟨rfl, hb⟩; refine ⟨_, rfl, ?_⟩; replace BK489 := aS_ (blk_below (by (with_reducible repeat (first | refine bN ?_ _ | refine bD ?_ | refine bA ?_ _)); exact BK489.out) hb); replace HB := aS_ (below_step (by repeat (first | (with_reducible first | exact HB.out | apply wA | apply wN | apply w1_ | refine wS ?_ GE489.out) | exact HB.out)) hb); (try clear hb); (try clear hb2); (try clear hk); (try clear hi)))
   go_meet
   case rel => exact ⟨_, (decide ((a1.size : Int) > 3000)), (by first | rfl | (simp; done) | (simp [*]; done)), H', ⟨by first | omega | exact Nat.le_refl _⟩, ⟨by (with_reducible repeat (first | refine bN ?_ _ | refine bD ?_ | refine bA ?_ _)); exact BK489.out⟩, ⟨by repeat (first | (with_reducible first | exact HB.out | apply wA | apply wN | apply w1_ | refine wS ?_ GE489.out) | exact HB.out)⟩⟩
  ·replace c7 := Bool.eq_false_iff.mpr c7
   subst c7
   have H1 : (sl28PackBack.j0 k a1 a2 true a0_0 l0_1 l0_2 l0_3 a0_4 l0_5) = some r := by rw [if_neg (show ¬ (false = true) by decide)] at H; exact H
   clear H
   have H := H1
   clear H1
   have H' := aS_ H
   clear H
   obtain ⟨hcz10_0, hcz10_1, hcz10_2, hcz10_3, hcz10_4, hcz10_5, hfz10_0, hfz10_1, hfz10_2, hfz10_3, hfz10_4, hfz10_5⟩ := c6_ BK489.out
   go_wp2_with (first | ((with_reducible refine gate_callee (f := 6) rfl ?_); refine goesL_ (some 18) rfl rfl Try.func6 (by kernel_rfl) rfl #[.agg #[.string a0_0, .slice A0_1 l0_1.length c0_1, .slice A0_2 l0_2.length c0_2, .slice A0_3 l0_3.length c0_3, .bool a0_4, .slice A0_5 l0_5.length c0_5]] rfl (by (try simp only [List.map_toArray, List.map_cons, List.map_nil]); first | done | rfl | (simp only [List.length_drop, List.length_take]; rfl)) ?_; (with_reducible refine (sr25Few.calls k a0_0 _ _ l0_1 _ _ l0_2 _ _ l0_3 a0_4 _ _ l0_5 false _ ?side1 ?side2 ?side3 ?side4 ?side5 ?side6 ?side7 ?side8 A6.out).mono ?_); (case side1 => repeat (first | exact (Kd.C_below HR0_1.out HB.out) | (with_reducible refine Kd.C_alloc ?_ _) | (with_reducible refine Kd.C_drewN ?_ _) | (with_reducible refine Kd.C_drew ?_))); (case side2 => exact HC0_1.out); (case side3 => repeat (first | exact (Kd.C_below HR0_2.out HB.out) | (with_reducible refine Kd.C_alloc ?_ _) | (with_reducible refine Kd.C_drewN ?_ _) | (with_reducible refine Kd.C_drew ?_))); (case side4 => exact HC0_2.out); (case side5 => repeat (first | exact (Kd.C_below HR0_3.out HB.out) | (with_reducible refine Kd.C_alloc ?_ _) | (with_reducible refine Kd.C_drewN ?_ _) | (with_reducible refine Kd.C_drew ?_))); (case side6 => exact HC0_3.out); (case side7 => repeat (first | exact (Kd.C_below HR0_5.out HB.out) | (with_reducible refine Kd.C_alloc ?_ _) | (with_reducible refine Kd.C_drewN ?_ _) | (with_reducible refine Kd.C_drew ?_))); (case side8 => exact HC0_5.out); rintro e w11 ⟨rfl, hb⟩; refine ⟨_, rfl, ?_⟩; replace BK489 := aS_ (blk_below (by (with_reducible repeat (first | refine bN ?_ _ | refine bD ?_ | refine bA ?_ _)); exact BK489.out) hb); replace HB := aS_ (below_step (by repeat (first | (with_reducible first | exact HB.out | apply wA | apply wN | apply w1_ | refine wS ?_ GE489.out) | exact HB.out)) hb); (try clear hb); (try clear hb2); (try clear hk); (try clear hi)))
   go_meet
   case rel => exact ⟨_, (true), (by first | rfl | (simp; done) | (simp [*]; done)), H', ⟨by first | omega | exact Nat.le_refl _⟩, ⟨by (with_reducible repeat (first | refine bN ?_ _ | refine bD ?_ | refine bA ?_ _)); exact BK489.out⟩, ⟨by repeat (first | (with_reducible first | exact HB.out | apply wA | apply wN | apply w1_ | refine wS ?_ GE489.out) | exact HB.out)⟩⟩
 case rest =>
  clear HC4
  try clear p2
  try clear c5
  try clear c6
  try clear c7
  try clear hcz10_0
  try clear hcz10_1
  try clear hcz10_2
  try clear hcz10_3
  try clear hcz10_4
  try clear hcz10_5
  try clear hcz8_0
  try clear hcz8_1
  try clear hcz8_2
  try clear hcz8_3
  try clear hcz8_4
  try clear hcz8_5
  try clear hfz10_0
  try clear hfz10_1
  try clear hfz10_2
  try clear hfz10_3
  try clear hfz10_4
  try clear hfz10_5
  try clear hfz8_0
  try clear hfz8_1
  try clear hfz8_2
  try clear hfz8_3
  try clear hfz8_4
  try clear hfz8_5
  obtain ⟨kq, x24_3, rfl, HA, HJ3, BK489, HB⟩ := hcut
  cases kq with
  | zero => exact absurd HA.out (by simp [sl28PackBack.j0])
  | succ kj3 =>
   have H := HA.out
   clear HA
   simp only [sl28PackBack.j0] at H
   by_cases c12 : x24_3 = true
   ·subst c12
    have H1 : ((sl28lives.f kj3).bind fun t491 => (some t491)) = some r := by rw [if_pos rfl] at H; exact H
    clear H
    have H := H1
    clear H1
    replace H := Option.bind_eq_some_iff.mp H
    obtain ⟨t491, A130, H⟩ := H
    replace H : (some t491) = some r := H
    have A13 := aS_ A130
    clear A130
    obtain rfl := Option.some.inj H
    go_wp2_with (first | ((with_reducible refine gate_callee (f := 7) rfl ?_); refine goesL_ (some 25) rfl rfl Try.func7 (by kernel_rfl) rfl #[] rfl (by (try simp only [List.map_toArray, List.map_cons, List.map_nil]); first | done | rfl | (simp only [List.length_drop, List.length_take]; rfl)) ?_; (with_reducible refine (sl28lives.calls kj3  t491 _ A13.out).mono ?_); rintro e w14 ⟨rfl, hb⟩; refine ⟨_, rfl, ?_⟩; replace BK489 := aS_ (blk_below (by (with_reducible repeat (first | refine bN ?_ _ | refine bD ?_ | refine bA ?_ _)); exact BK489.out) hb); replace HB := aS_ (below_step (by repeat (first | (with_reducible first | exact HB.out | apply wA | apply wN | apply w1_ | refine wS ?_ GE489.out) | exact HB.out)) hb); (try clear hb); (try clear hb2); (try clear hk); (try clear hi)))
    go_ret
    exact ⟨by first | rfl | (simp [errW_none, errW_some] <;> rfl) | (simp [*, errW_none, errW_some] <;> rfl), by repeat (first | (with_reducible first | exact HB.out | apply wA | apply wN | apply w1_ | refine wS ?_ GE489.out) | exact HB.out)⟩
   ·replace c12 := Bool.eq_false_iff.mpr c12
    subst c12
    have H1 : ((pack_Lay.f kj3 a0_0 l0_1 l0_2 l0_3 a0_4 l0_5).bind fun bt492 => (if bt492.2 = 0 then ((pack_Read.f kj3 bt492.1).bind fun bt494 => ((sr25Same.f kj3 bt494.1 bt494.2.1 bt494.2.2.1 bt494.2.2.2.1 bt494.2.2.2.2.1 bt494.2.2.2.2.2.1 a0_0 l0_1 l0_2 l0_3 a0_4 l0_5).bind fun t510 => (if t510 = true then (sl28PackBack.j1 kj3 a1 a2 bt492.1 (bt494.2.2.2.2.2.2 != 0)) else (none)))) else (sl28PackBack.j3 kj3 a1))) = some r := by rw [if_neg (show ¬ (false = true) by decide)] at H; exact H
    clear H
    have H := H1
    clear H1
    replace H := Option.bind_eq_some_iff.mp H
    obtain ⟨⟨t492, t493⟩, A150, H⟩ := H
    replace H : (if t493 = 0 then ((pack_Read.f kj3 t492).bind fun bt494 => ((sr25Same.f kj3 bt494.1 bt494.2.1 bt494.2.2.1 bt494.2.2.2.1 bt494.2.2.2.2.1 bt494.2.2.2.2.2.1 a0_0 l0_1 l0_2 l0_3 a0_4 l0_5).bind fun t510 => (if t510 = true then (sl28PackBack.j1 kj3 a1 a2 t492 (bt494.2.2.2.2.2.2 != 0)) else (none)))) else (sl28PackBack.j3 kj3 a1)) = some r := H
    have A15 := aS_ A150
    clear A150
    have HC16 := aS_ H
    clear H
    obtain ⟨hcz17_0, hcz17_1, hcz17_2, hcz17_3, hcz17_4, hcz17_5, hfz17_0, hfz17_1, hfz17_2, hfz17_3, hfz17_4, hfz17_5⟩ := c6_ BK489.out
    go_upto_if 32 with (first | ((with_reducible refine gate_callee (f := 8) rfl ?_); refine goesL_ (some 28) rfl rfl Try.func8 (by kernel_rfl) rfl #[.agg #[.string a0_0, .slice A0_1 l0_1.length c0_1, .slice A0_2 l0_2.length c0_2, .slice A0_3 l0_3.length c0_3, .bool a0_4, .slice A0_5 l0_5.length c0_5]] rfl (by (try simp only [List.map_toArray, List.map_cons, List.map_nil]); first | done | rfl | (simp only [List.length_drop, List.length_take]; rfl)) ?_; (with_reducible refine (pack_Lay.calls kj3 a0_0 _ _ l0_1 _ _ l0_2 _ _ l0_3 a0_4 _ _ l0_5 t492 t493 _ ?side1 ?side2 ?side3 ?side4 ?side5 ?side6 ?side7 ?side8 A15.out).mono ?_); (case side1 => repeat (first | exact (Kd.C_below HR0_1.out HB.out) | (with_reducible refine Kd.C_alloc ?_ _) | (with_reducible refine Kd.C_drewN ?_ _) | (with_reducible refine Kd.C_drew ?_))); (case side2 => exact HC0_1.out); (case side3 => repeat (first | exact (Kd.C_below HR0_2.out HB.out) | (with_reducible refine Kd.C_alloc ?_ _) | (with_reducible refine Kd.C_drewN ?_ _) | (with_reducible refine Kd.C_drew ?_))); (case side4 => exact HC0_2.out); (case side5 => repeat (first | exact (Kd.C_below HR0_3.out HB.out) | (with_reducible refine Kd.C_alloc ?_ _) | (with_reducible refine Kd.C_drewN ?_ _) | (with_reducible refine Kd.C_drew ?_))); (case side6 => exact HC0_3.out); (case side7 => repeat (first | exact (Kd.C_below HR0_5.out HB.out) | (with_reducible refine Kd.C_alloc ?_ _) | (with_reducible refine Kd.C_drewN ?_ _) | (with_reducible refine Kd.C_drew ?_))); (case side8 => exact HC0_5.out); rintro e w18 ⟨rfl, hb⟩; refine ⟨_, rfl, ?_⟩; replace BK489 := aS_ (blk_below (by (with_reducible repeat (first | refine bN ?_ _ | refine bD ?_ | refine bA ?_ _)); exact BK489.out) hb); replace HB := aS_ (below_step (by repeat (first | (with_reducible first | exact HB.out | apply wA | apply wN | apply w1_ | refine wS ?_ GE489.out) | exact HB.out)) hb); (try clear hb); (try clear hb2); (try clear hk); (try clear hi)))
    (try simp only [Act.put, List.setIfInBounds_toArray, List.set_cons_zero, List.set_cons_succ])
    go_cut [] (fun wc => ∃ (kq : Nat), Aside0 (sl28PackBack.j3 kq a1 = some r) ∧ Aside0 (kq ≤ kj3) ∧ Aside0 (wc.heap[gb489]? = some (.cells #[.string a0_0, (.slice A0_1 l0_1.length c0_1), (.slice A0_2 l0_2.length c0_2), (.slice A0_3 l0_3.length c0_3), .bool a0_4, (.slice A0_5 l0_5.length c0_5)] 26 (0, 0))) ∧ Aside0 (Below w.heap.size w wc))
    case first =>
     have H := HC16.out
     clear HC16
     by_cases c19 : t493 = 0
     ·rw [if_pos c19] at H
      have c19b0 : (t493 == 0) = true := beq_iff_eq.mpr c19
      have c19b1 : (t493 != 0) = false := bne_eq_false_iff_eq.mpr c19
      clear c19
      (first | rw [c19b0] | (simp only [i64_w, i32_w]; rw [c19b0]) | skip)
      replace H := Option.bind_eq_some_iff.mp H
      obtain ⟨⟨t494, t495, t498, t501, t504, t505, t508⟩, A200, H⟩ := H
      replace H : ((sr25Same.f kj3 t494 t495 t498 t501 t504 t505 a0_0 l0_1 l0_2 l0_3 a0_4 l0_5).bind fun t510 => (if t510 = true then (sl28PackBack.j1 kj3 a1 a2 t492 (t508 != 0)) else (none))) = some r := H
      have A20 := aS_ A200
      clear A200
      have HC21 := aS_ H
      clear H
      go_upto_region 6 with (first | ((with_reducible refine gate_callee (f := 10) rfl ?_); refine goesL_ (some 35) rfl rfl Try.func10 (by kernel_rfl) rfl #[.string t492] rfl (by (try simp only [List.map_toArray, List.map_cons, List.map_nil]); first | done | rfl | (simp only [List.length_drop, List.length_take]; rfl)) ?_; (with_reducible refine (pack_Read.calls kj3 t492 t494 t495 t498 t501 t504 t505 t508 _ A20.out).mono ?_); rintro e w22 ⟨v496, v499, v502, v506, rfl, ho0, ho1, ho2, ho3, hb⟩; refine ⟨_, rfl, ?_⟩; have HO497 := aS_ (Kd.R_lower ho0 (below_size (by repeat (first | (with_reducible first | exact HB.out | apply wA | apply wN | apply w1_ | refine wS ?_ GE489.out) | exact HB.out)))); have HO500 := aS_ (Kd.S_lower ho1 (below_size (by repeat (first | (with_reducible first | exact HB.out | apply wA | apply wN | apply w1_ | refine wS ?_ GE489.out) | exact HB.out)))); have HO503 := aS_ (Kd.S_lower ho2 (below_size (by repeat (first | (with_reducible first | exact HB.out | apply wA | apply wN | apply w1_ | refine wS ?_ GE489.out) | exact HB.out)))); have HO507 := aS_ (Kd.R_lower ho3 (below_size (by repeat (first | (with_reducible first | exact HB.out | apply wA | apply wN | apply w1_ | refine wS ?_ GE489.out) | exact HB.out)))); replace BK489 := aS_ (blk_below (by (with_reducible repeat (first | refine bN ?_ _ | refine bD ?_ | refine bA ?_ _)); exact BK489.out) hb); replace HB := aS_ (below_step (by repeat (first | (with_reducible first | exact HB.out | apply wA | apply wN | apply w1_ | refine wS ?_ GE489.out) | exact HB.out)) hb); (try clear hb); (try clear hb2); (try clear hk); (try clear hi); (try clear ho0); (try clear ho1); (try clear ho2); (try clear ho3)) | ((with_reducible refine gate_dst (N := 9) rfl ?_); (try (refine gate_guard (by rfl) ?_; dsimp only)); refine box_event ?hg (N := 9) ?hd (cs := #[.string (⟨#[]⟩ : ByteArray), .slice none 0 0, .slice none 0 0, .slice none 0 0, .bool false, .slice none 0 0]) (t := 26) ?hr ?_; (case hd => rfl); (case hg => rfl); (case hr => first | (go_simp; done) | (go_simp; rfl)); intro gb509 hg w23 hbox hb; have n0_ := aS_ (Kd.R_below (by (with_reducible repeat (first | apply Kd.R_alloc | apply Kd.R_drewN | apply Kd.R_drew)); exact HO497.out) hb); have n1_ := aS_ (Kd.S_below (by (with_reducible repeat (first | apply Kd.S_alloc | apply Kd.S_drewN | apply Kd.S_drew)); exact HO500.out) hb); have n2_ := aS_ (Kd.S_below (by (with_reducible repeat (first | apply Kd.S_alloc | apply Kd.S_drewN | apply Kd.S_drew)); exact HO503.out) hb); have n3_ := aS_ (Kd.R_below (by (with_reducible repeat (first | apply Kd.R_alloc | apply Kd.R_drewN | apply Kd.R_drew)); exact HO507.out) hb); have n4_ := aS_ (blk_below (by (with_reducible repeat (first | refine bN ?_ _ | refine bD ?_ | refine bA ?_ _)); exact BK489.out) hb); have n5_ := aS_ (below_step (by repeat (first | (with_reducible first | exact HB.out | apply wA | apply wN | apply w1_ | refine wS ?_ GE489.out) | exact HB.out)) hb); have n6_ := aS_ (hbox); have n7_ := aS_ ((by rw [hg]; exact (below_size (by repeat (first | (with_reducible first | exact HB.out | apply wA | apply wN | apply w1_ | refine wS ?_ GE489.out) | exact HB.out))) : w.heap.size ≤ gb509)); have n8_ := n7_; have n9_ := aS_ ((by rw [hg]; exact Nat.ne_of_lt (blk_lt (g := gb489) (o := .cells #[.string a0_0, .slice A0_1 l0_1.length c0_1, .slice A0_2 l0_2.length c0_2, .slice A0_3 l0_3.length c0_3, .bool a0_4, .slice A0_5 l0_5.length c0_5] 26 (0, 0)) (by (with_reducible repeat (first | refine bN ?_ _ | refine bD ?_ | refine bA ?_ _)); exact BK489.out)) : gb489 ≠ gb509)); have n10_ := aS_ ((by rw [hg]; exact Nat.ne_of_gt (blk_lt (g := gb489) (o := .cells #[.string a0_0, .slice A0_1 l0_1.length c0_1, .slice A0_2 l0_2.length c0_2, .slice A0_3 l0_3.length c0_3, .bool a0_4, .slice A0_5 l0_5.length c0_5] 26 (0, 0)) (by (with_reducible repeat (first | refine bN ?_ _ | refine bD ?_ | refine bA ?_ _)); exact BK489.out)) : gb509 ≠ gb489)); clear HO497; clear HO500; clear HO503; clear HO507; clear BK489; clear HB; have HO497 := n0_; have HO500 := n1_; have HO503 := n2_; have HO507 := n3_; have BK489 := n4_; have HB := n5_; have BK509 := n6_; have GW509 := n7_; have GE509 := n8_; have NB489_509 := n9_; have NB509_489 := n10_; clear n0_ n1_ n2_ n3_ n4_ n5_ n6_ n7_ n8_ n9_ n10_; clear hb hbox hg; have hnb24 := NB509_489.out; have hnc24 := NB489_509.out; obtain ⟨hcz25_0, hcz25_1, hcz25_2, hcz25_3, hcz25_4, hcz25_5, hfz25_0, hfz25_1, hfz25_2, hfz25_3, hfz25_4, hfz25_5⟩ := c6_ BK509.out; obtain ⟨Ao26, co26, eo26⟩ := Kd.R_slice HO497.out; subst eo26; obtain ⟨Ao27, co27, eo27⟩ := Kd.S_slice HO500.out; subst eo27; obtain ⟨Ao28, co28, eo28⟩ := Kd.S_slice HO503.out; subst eo28; obtain ⟨Ao29, co29, eo29⟩ := Kd.R_slice HO507.out; subst eo29))
      (try simp only [Act.put, List.setIfInBounds_toArray, List.set_cons_zero, List.set_cons_succ])
      go_cut [45] (fun v45 wc => ∃ (kq : Nat) (x45_20 : Bool), v45 = .bool x45_20 ∧ Aside0 (sl28PackBack.j1 kq a1 a2 t492 x45_20 = some r) ∧ Aside0 (kq ≤ kj3) ∧ Aside0 (Kd.R k49 49 wc w.heap.size (fun _ => True) (.slice Ao26 t495.length co26) t495) ∧ Aside0 (Kd.S k38 38 wc w.heap.size (fun k_ => some k_ ≠ ((.slice Ao28 t501.length co28) : Value).ownBlock ∧ some k_ ≠ ((.slice Ao29 t505.length co29) : Value).ownBlock) (.slice Ao27 t498.length co27) t498) ∧ Aside0 (Kd.S k38 38 wc w.heap.size (fun k_ => some k_ ≠ ((.slice Ao27 t498.length co27) : Value).ownBlock ∧ some k_ ≠ ((.slice Ao29 t505.length co29) : Value).ownBlock) (.slice Ao28 t501.length co28) t501) ∧ Aside0 (Kd.R k88 88 wc w.heap.size (fun _ => True) (.slice Ao29 t505.length co29) t505) ∧ Aside0 (wc.heap[gb489]? = some (.cells #[.string a0_0, (.slice A0_1 l0_1.length c0_1), (.slice A0_2 l0_2.length c0_2), (.slice A0_3 l0_3.length c0_3), .bool a0_4, (.slice A0_5 l0_5.length c0_5)] 26 (0, 0))) ∧ Aside0 (wc.heap[gb509]? = some (.cells #[.string t494, (.slice Ao26 t495.length co26), (.slice Ao27 t498.length co27), (.slice Ao28 t501.length co28), .bool t504, (.slice Ao29 t505.length co29)] 26 (0, 0))) ∧ Aside0 (Below w.heap.size w wc))
      case first =>
       have H := HC21.out
       clear HC21
       replace H := Option.bind_eq_some_iff.mp H
       obtain ⟨t510, A300, H⟩ := H
       replace H : (if t510 = true then (sl28PackBack.j1 kj3 a1 a2 t492 (t508 != 0)) else (none)) = some r := H
       have A30 := aS_ A300
       clear A300
       by_cases c31 : t510 = true
       ·subst c31
        have H1 : (sl28PackBack.j1 kj3 a1 a2 t492 (t508 != 0)) = some r := by rw [if_pos rfl] at H; exact H
        clear H
        have H := H1
        clear H1
        have H' := aS_ H
        clear H
        have hnb32 := NB509_489.out
        have hnc32 := NB489_509.out
        obtain ⟨hcz33_0, hcz33_1, hcz33_2, hcz33_3, hcz33_4, hcz33_5, hfz33_0, hfz33_1, hfz33_2, hfz33_3, hfz33_4, hfz33_5⟩ := c6_ BK509.out
        obtain ⟨hcz34_0, hcz34_1, hcz34_2, hcz34_3, hcz34_4, hcz34_5, hfz34_0, hfz34_1, hfz34_2, hfz34_3, hfz34_4, hfz34_5⟩ := c6_ BK489.out
        go_wp2_with (first | ((with_reducible refine gate_callee (f := 12) rfl ?_); refine goesL_ (some 40) rfl rfl Try.func12 (by kernel_rfl) rfl #[.agg #[.string t494, .slice Ao26 t495.length co26, .slice Ao27 t498.length co27, .slice Ao28 t501.length co28, .bool t504, .slice Ao29 t505.length co29], .agg #[.string a0_0, .slice A0_1 l0_1.length c0_1, .slice A0_2 l0_2.length c0_2, .slice A0_3 l0_3.length c0_3, .bool a0_4, .slice A0_5 l0_5.length c0_5]] rfl (by (try simp only [List.map_toArray, List.map_cons, List.map_nil]); first | done | rfl | (simp only [List.length_drop, List.length_take]; rfl)) ?_; (with_reducible refine (sr25Same.calls kj3 t494 _ _ t495 _ _ t498 _ _ t501 t504 _ _ t505 a0_0 _ _ l0_1 _ _ l0_2 _ _ l0_3 a0_4 _ _ l0_5 true _ ?side1 ?side2 ?side3 ?side4 ?side5 ?side6 ?side7 ?side8 ?side9 ?side10 ?side11 ?side12 ?side13 ?side14 ?side15 ?side16 A30.out).mono ?_); (case side1 => refine (Kd.R_reads' (e := 49) (base := w.heap.size) (ok := fun k_ => True) (n := t495.length) (c := co26) ?_).2.2; exact (by (with_reducible repeat (first | apply Kd.R_alloc | apply Kd.R_drewN | apply Kd.R_drew)); exact (Kd.R_mono (Kd.R_far (p := ⟨gb509, 5, none⟩) (Kd.R_far (p := ⟨gb509, 4, none⟩) (Kd.R_far (p := ⟨gb509, 3, none⟩) (Kd.R_far (p := ⟨gb509, 2, none⟩) (Kd.R_far (p := ⟨gb509, 1, none⟩) (Kd.R_far (p := ⟨gb509, 0, none⟩) (Kd.R_types HO497.out BK509.out (by decide)) (fun _ hk => hk.2) (.string t494)) (fun _ hk => hk.2) (.slice Ao26 t495.length co26)) (fun _ hk => hk.2) (.slice Ao27 t498.length co27)) (fun _ hk => hk.2) (.slice Ao28 t501.length co28)) (fun _ hk => hk.2) (.bool t504)) (fun _ hk => hk.2) (.slice Ao29 t505.length co29)) (fun _ h_ => h_.1)))); (case side2 => exact (Kd.R_reads' HO497.out).2.1); (case side3 => refine (Kd.S_reads' (e := 38) (base := w.heap.size) (ok := fun k_ => (some k_ ≠ (.slice Ao28 t501.length co28 : Value).ownBlock ∧ some k_ ≠ (.slice Ao29 t505.length co29 : Value).ownBlock)) (n := t498.length) (c := co27) ?_).2.2; exact (by (with_reducible repeat (first | apply Kd.S_alloc | apply Kd.S_drewN | apply Kd.S_drew)); exact (Kd.S_mono (Kd.S_far (p := ⟨gb509, 5, none⟩) (Kd.S_far (p := ⟨gb509, 4, none⟩) (Kd.S_far (p := ⟨gb509, 3, none⟩) (Kd.S_far (p := ⟨gb509, 2, none⟩) (Kd.S_far (p := ⟨gb509, 1, none⟩) (Kd.S_far (p := ⟨gb509, 0, none⟩) (Kd.S_types HO500.out BK509.out (by decide)) (fun _ hk => hk.2) (.string t494)) (fun _ hk => hk.2) (.slice Ao26 t495.length co26)) (fun _ hk => hk.2) (.slice Ao27 t498.length co27)) (fun _ hk => hk.2) (.slice Ao28 t501.length co28)) (fun _ hk => hk.2) (.bool t504)) (fun _ hk => hk.2) (.slice Ao29 t505.length co29)) (fun _ h_ => h_.1)))); (case side4 => exact (Kd.S_reads' HO500.out).2.1); (case side5 => refine (Kd.S_reads' (e := 38) (base := w.heap.size) (ok := fun k_ => (some k_ ≠ (.slice Ao27 t498.length co27 : Value).ownBlock ∧ some k_ ≠ (.slice Ao29 t505.length co29 : Value).ownBlock)) (n := t501.length) (c := co28) ?_).2.2; exact (by (with_reducible repeat (first | apply Kd.S_alloc | apply Kd.S_drewN | apply Kd.S_drew)); exact (Kd.S_mono (Kd.S_far (p := ⟨gb509, 5, none⟩) (Kd.S_far (p := ⟨gb509, 4, none⟩) (Kd.S_far (p := ⟨gb509, 3, none⟩) (Kd.S_far (p := ⟨gb509, 2, none⟩) (Kd.S_far (p := ⟨gb509, 1, none⟩) (Kd.S_far (p := ⟨gb509, 0, none⟩) (Kd.S_types HO503.out BK509.out (by decide)) (fun _ hk => hk.2) (.string t494)) (fun _ hk => hk.2) (.slice Ao26 t495.length co26)) (fun _ hk => hk.2) (.slice Ao27 t498.length co27)) (fun _ hk => hk.2) (.slice Ao28 t501.length co28)) (fun _ hk => hk.2) (.bool t504)) (fun _ hk => hk.2) (.slice Ao29 t505.length co29)) (fun _ h_ => h_.1)))); (case side6 => exact (Kd.S_reads' HO503.out).2.1); (case side7 => refine (Kd.R_reads' (e := 88) (base := w.heap.size) (ok := fun k_ => True) (n := t505.length) (c := co29) ?_).2.2; exact (by (with_reducible repeat (first | apply Kd.R_alloc | apply Kd.R_drewN | apply Kd.R_drew)); exact (Kd.R_mono (Kd.R_far (p := ⟨gb509, 5, none⟩) (Kd.R_far (p := ⟨gb509, 4, none⟩) (Kd.R_far (p := ⟨gb509, 3, none⟩) (Kd.R_far (p := ⟨gb509, 2, none⟩) (Kd.R_far (p := ⟨gb509, 1, none⟩) (Kd.R_far (p := ⟨gb509, 0, none⟩) (Kd.R_types HO507.out BK509.out (by decide)) (fun _ hk => hk.2) (.string t494)) (fun _ hk => hk.2) (.slice Ao26 t495.length co26)) (fun _ hk => hk.2) (.slice Ao27 t498.length co27)) (fun _ hk => hk.2) (.slice Ao28 t501.length co28)) (fun _ hk => hk.2) (.bool t504)) (fun _ hk => hk.2) (.slice Ao29 t505.length co29)) (fun _ h_ => h_.1)))); (case side8 => exact (Kd.R_reads' HO507.out).2.1); (case side9 => exact Kd.C_below HR0_1.out (by repeat (first | (with_reducible first | exact HB.out | apply wA | apply wN | apply w1_ | refine wS ?_ GE489.out | refine wS ?_ GE509.out) | exact HB.out))); (case side10 => exact HC0_1.out); (case side11 => exact Kd.C_below HR0_2.out (by repeat (first | (with_reducible first | exact HB.out | apply wA | apply wN | apply w1_ | refine wS ?_ GE489.out | refine wS ?_ GE509.out) | exact HB.out))); (case side12 => exact HC0_2.out); (case side13 => exact Kd.C_below HR0_3.out (by repeat (first | (with_reducible first | exact HB.out | apply wA | apply wN | apply w1_ | refine wS ?_ GE489.out | refine wS ?_ GE509.out) | exact HB.out))); (case side14 => exact HC0_3.out); (case side15 => exact Kd.C_below HR0_5.out (by repeat (first | (with_reducible first | exact HB.out | apply wA | apply wN | apply w1_ | refine wS ?_ GE489.out | refine wS ?_ GE509.out) | exact HB.out))); (case side16 => exact HC0_5.out); rintro e w35 ⟨rfl, hb⟩; refine ⟨_, rfl, ?_⟩; replace HO497 := aS_ (Kd.R_below (by (with_reducible repeat (first | apply Kd.R_alloc | apply Kd.R_drewN | apply Kd.R_drew)); exact (Kd.R_mono (Kd.R_far (p := ⟨gb509, 5, none⟩) (Kd.R_far (p := ⟨gb509, 4, none⟩) (Kd.R_far (p := ⟨gb509, 3, none⟩) (Kd.R_far (p := ⟨gb509, 2, none⟩) (Kd.R_far (p := ⟨gb509, 1, none⟩) (Kd.R_far (p := ⟨gb509, 0, none⟩) (Kd.R_types HO497.out BK509.out (by decide)) (fun _ hk => hk.2) (.string t494)) (fun _ hk => hk.2) (.slice Ao26 t495.length co26)) (fun _ hk => hk.2) (.slice Ao27 t498.length co27)) (fun _ hk => hk.2) (.slice Ao28 t501.length co28)) (fun _ hk => hk.2) (.bool t504)) (fun _ hk => hk.2) (.slice Ao29 t505.length co29)) (fun _ h_ => h_.1))) hb); replace HO500 := aS_ (Kd.S_below (by (with_reducible repeat (first | apply Kd.S_alloc | apply Kd.S_drewN | apply Kd.S_drew)); exact (Kd.S_mono (Kd.S_far (p := ⟨gb509, 5, none⟩) (Kd.S_far (p := ⟨gb509, 4, none⟩) (Kd.S_far (p := ⟨gb509, 3, none⟩) (Kd.S_far (p := ⟨gb509, 2, none⟩) (Kd.S_far (p := ⟨gb509, 1, none⟩) (Kd.S_far (p := ⟨gb509, 0, none⟩) (Kd.S_types HO500.out BK509.out (by decide)) (fun _ hk => hk.2) (.string t494)) (fun _ hk => hk.2) (.slice Ao26 t495.length co26)) (fun _ hk => hk.2) (.slice Ao27 t498.length co27)) (fun _ hk => hk.2) (.slice Ao28 t501.length co28)) (fun _ hk => hk.2) (.bool t504)) (fun _ hk => hk.2) (.slice Ao29 t505.length co29)) (fun _ h_ => h_.1))) hb); replace HO503 := aS_ (Kd.S_below (by (with_reducible repeat (first | apply Kd.S_alloc | apply Kd.S_drewN | apply Kd.S_drew)); exact (Kd.S_mono (Kd.S_far (p := ⟨gb509, 5, none⟩) (Kd.S_far (p := ⟨gb509, 4, none⟩) (Kd.S_far (p := ⟨gb509, 3, none⟩) (Kd.S_far (p := ⟨gb509, 2, none⟩) (Kd.S_far (p := ⟨gb509, 1, none⟩) (Kd.S_far (p := ⟨gb509, 0, none⟩) (Kd.S_types HO503.out BK509.out (by decide)) (fun _ hk => hk.2) (.string t494)) (fun _ hk => hk.2) (.slice Ao26 t495.length co26)) (fun _ hk => hk.2) (.slice Ao27 t498.length co27)) (fun _ hk => hk.2) (.slice Ao28 t501.length co28)) (fun _ hk => hk.2) (.bool t504)) (fun _ hk => hk.2) (.slice Ao29 t505.length co29)) (fun _ h_ => h_.1))) hb); replace HO507 := aS_ (Kd.R_below (by (with_reducible repeat (first | apply Kd.R_alloc | apply Kd.R_drewN | apply Kd.R_drew)); exact (Kd.R_mono (Kd.R_far (p := ⟨gb509, 5, none⟩) (Kd.R_far (p := ⟨gb509, 4, none⟩) (Kd.R_far (p := ⟨gb509, 3, none⟩) (Kd.R_far (p := ⟨gb509, 2, none⟩) (Kd.R_far (p := ⟨gb509, 1, none⟩) (Kd.R_far (p := ⟨gb509, 0, none⟩) (Kd.R_types HO507.out BK509.out (by decide)) (fun _ hk => hk.2) (.string t494)) (fun _ hk => hk.2) (.slice Ao26 t495.length co26)) (fun _ hk => hk.2) (.slice Ao27 t498.length co27)) (fun _ hk => hk.2) (.slice Ao28 t501.length co28)) (fun _ hk => hk.2) (.bool t504)) (fun _ hk => hk.2) (.slice Ao29 t505.length co29)) (fun _ h_ => h_.1))) hb); replace BK489 := aS_ (blk_below (g := gb489) (o := .cells #[.string a0_0, .slice A0_1 l0_1.length c0_1, .slice A0_2 l0_2.length c0_2, .slice A0_3 l0_3.length c0_3, .bool a0_4, .slice A0_5 l0_5.length c0_5] 26 (0, 0)) (by (with_reducible repeat (first | refine bN ?_ _ | refine bD ?_ | refine bA ?_ _)); refine blk_far ?_ NB489_509.out _; (with_reducible repeat (first | refine bN ?_ _ | refine bD ?_ | refine bA ?_ _)); refine blk_far ?_ NB489_509.out _; (with_reducible repeat (first | refine bN ?_ _ | refine bD ?_ | refine bA ?_ _)); refine blk_far ?_ NB489_509.out _; (with_reducible repeat (first | refine bN ?_ _ | refine bD ?_ | refine bA ?_ _)); refine blk_far ?_ NB489_509.out _; (with_reducible repeat (first | refine bN ?_ _ | refine bD ?_ | refine bA ?_ _)); refine blk_far ?_ NB489_509.out _; (with_reducible repeat (first | refine bN ?_ _ | refine bD ?_ | refine bA ?_ _)); refine blk_far ?_ NB489_509.out _; (with_reducible repeat (first | refine bN ?_ _ | refine bD ?_ | refine bA ?_ _)); exact BK489.out) hb); replace BK509 := aS_ (blk_below (g := gb509) (o := .cells #[.string t494, .slice Ao26 t495.length co26, .slice Ao27 t498.length co27, .slice Ao28 t501.length co28, .bool t504, .slice Ao29 t505.length co29] 26 (0, 0)) (by (with_reducible repeat (first | refine bN ?_ _ | refine bD ?_ | refine bA ?_ _)); refine blk_put (cs := #[.string t494, .slice Ao26 t495.length co26, .slice Ao27 t498.length co27, .slice Ao28 t501.length co28, .bool t504, .slice none 0 0]) ?_ 5 _ rfl; (with_reducible repeat (first | refine bN ?_ _ | refine bD ?_ | refine bA ?_ _)); refine blk_put (cs := #[.string t494, .slice Ao26 t495.length co26, .slice Ao27 t498.length co27, .slice Ao28 t501.length co28, .bool false, .slice none 0 0]) ?_ 4 _ rfl; (with_reducible repeat (first | refine bN ?_ _ | refine bD ?_ | refine bA ?_ _)); refine blk_put (cs := #[.string t494, .slice Ao26 t495.length co26, .slice Ao27 t498.length co27, .slice none 0 0, .bool false, .slice none 0 0]) ?_ 3 _ rfl; (with_reducible repeat (first | refine bN ?_ _ | refine bD ?_ | refine bA ?_ _)); refine blk_put (cs := #[.string t494, .slice Ao26 t495.length co26, .slice none 0 0, .slice none 0 0, .bool false, .slice none 0 0]) ?_ 2 _ rfl; (with_reducible repeat (first | refine bN ?_ _ | refine bD ?_ | refine bA ?_ _)); refine blk_put (cs := #[.string t494, .slice none 0 0, .slice none 0 0, .slice none 0 0, .bool false, .slice none 0 0]) ?_ 1 _ rfl; (with_reducible repeat (first | refine bN ?_ _ | refine bD ?_ | refine bA ?_ _)); refine blk_put (cs := #[.string (⟨#[]⟩ : ByteArray), .slice none 0 0, .slice none 0 0, .slice none 0 0, .bool false, .slice none 0 0]) ?_ 0 _ rfl; (with_reducible repeat (first | refine bN ?_ _ | refine bD ?_ | refine bA ?_ _)); exact BK509.out) hb); replace HB := aS_ (below_step (by repeat (first | (with_reducible first | exact HB.out | apply wA | apply wN | apply w1_ | refine wS ?_ GE489.out | refine wS ?_ GE509.out) | exact HB.out)) hb); (try clear hb); (try clear hb2); (try clear hk); (try clear hi)))
        go_meet
        case rel => exact ⟨_, ((t508 != 0)), (by first | rfl | (simp; done) | (simp [*]; done)), H', ⟨by have := HJ3.out; first | omega | exact Nat.le_refl _⟩, ⟨by (with_reducible repeat (first | apply Kd.R_alloc | apply Kd.R_drewN | apply Kd.R_drew)); exact HO497.out⟩, ⟨by (with_reducible repeat (first | apply Kd.S_alloc | apply Kd.S_drewN | apply Kd.S_drew)); exact HO500.out⟩, ⟨by (with_reducible repeat (first | apply Kd.S_alloc | apply Kd.S_drewN | apply Kd.S_drew)); exact HO503.out⟩, ⟨by (with_reducible repeat (first | apply Kd.R_alloc | apply Kd.R_drewN | apply Kd.R_drew)); exact HO507.out⟩, ⟨by (with_reducible repeat (first | refine bN ?_ _ | refine bD ?_ | refine bA ?_ _)); exact BK489.out⟩, ⟨by (with_reducible repeat (first | refine bN ?_ _ | refine bD ?_ | refine bA ?_ _)); exact BK509.out⟩, ⟨by repeat (first | (with_reducible first | exact HB.out | apply wA | apply wN | apply w1_ | refine wS ?_ GE489.out | refine wS ?_ GE509.out) | exact HB.out)⟩⟩
       ·replace c31 := Bool.eq_false_iff.mpr c31
        subst c31
        have H1 : (none) = some r := by rw [if_neg (show ¬ (false = true) by decide)] at H; exact H
        clear H
        have H := H1
        clear H1
        exact absurd H (by simp)
      case rest =>
       clear HC21
       try clear c1
       try clear c2
       try clear p2
       try clear c3
       try clear c5
       try clear c6
       try clear c7
       try clear c8
       try clear c10
       try clear c12
       try clear c19
       try clear c19b0
       try clear c19b1
       try clear c24
       try clear c31
       try clear c32
       try clear hcz10_0
       try clear hcz10_1
       try clear hcz10_2
       try clear hcz10_3
       try clear hcz10_4
       try clear hcz10_5
       try clear hcz17_0
       try clear hcz17_1
       try clear hcz17_2
       try clear hcz17_3
       try clear hcz17_4
       try clear hcz17_5
       try clear hcz25_0
       try clear hcz25_1
       try clear hcz25_2
       try clear hcz25_3
       try clear hcz25_4
       try clear hcz25_5
       try clear hcz33_0
       try clear hcz33_1
       try clear hcz33_2
       try clear hcz33_3
       try clear hcz33_4
       try clear hcz33_5
       try clear hcz34_0
       try clear hcz34_1
       try clear hcz34_2
       try clear hcz34_3
       try clear hcz34_4
       try clear hcz34_5
       try clear hcz8_0
       try clear hcz8_1
       try clear hcz8_2
       try clear hcz8_3
       try clear hcz8_4
       try clear hcz8_5
       try clear hfz10_0
       try clear hfz10_1
       try clear hfz10_2
       try clear hfz10_3
       try clear hfz10_4
       try clear hfz10_5
       try clear hfz17_0
       try clear hfz17_1
       try clear hfz17_2
       try clear hfz17_3
       try clear hfz17_4
       try clear hfz17_5
       try clear hfz25_0
       try clear hfz25_1
       try clear hfz25_2
       try clear hfz25_3
       try clear hfz25_4
       try clear hfz25_5
       try clear hfz33_0
       try clear hfz33_1
       try clear hfz33_2
       try clear hfz33_3
       try clear hfz33_4
       try clear hfz33_5
       try clear hfz34_0
       try clear hfz34_1
       try clear hfz34_2
       try clear hfz34_3
       try clear hfz34_4
       try clear hfz34_5
       try clear hfz8_0
       try clear hfz8_1
       try clear hfz8_2
       try clear hfz8_3
       try clear hfz8_4
       try clear hfz8_5
       try clear p2
       obtain ⟨kq, x45_20, rfl, HA, HJ20, HO_510001, HO_510002, HO_510003, HO_510005, BK489, BK509, HB⟩ := hcut
       cases kq with
       | zero => exact absurd HA.out (by simp [sl28PackBack.j1])
       | succ kj20 =>
        have H := HA.out
        clear HA
        simp only [sl28PackBack.j1] at H
        by_cases c36 : x45_20 = true
        ·subst c36
         have H1 : (none) = some r := by rw [if_pos rfl] at H; exact H
         clear H
         have H := H1
         clear H1
         exact absurd H (by simp)
        ·replace c36 := Bool.eq_false_iff.mpr c36
         subst c36
         have H1 : (if a2 ≥ 0 then (sl28PackBack.j2 kj20 a1 a2 t492 (decide (a2 < (t492.size : Int)))) else (sl28PackBack.j2 kj20 a1 a2 t492 false)) = some r := by rw [if_neg (show ¬ (false = true) by decide)] at H; exact H
         clear H
         have H := H1
         clear H1
         have HC37 := aS_ H
         clear H
         go_upto_region 8 with (fail)
         go_cut [53] (fun v53 wc => ∃ (kq : Nat) (x53_36 : Bool), v53 = .bool x53_36 ∧ Aside0 (sl28PackBack.j2 kq a1 a2 t492 x53_36 = some r) ∧ Aside0 (kq ≤ kj20) ∧ Aside0 (Kd.R k49 49 wc w.heap.size (fun _ => True) (.slice Ao26 t495.length co26) t495) ∧ Aside0 (Kd.S k38 38 wc w.heap.size (fun k_ => some k_ ≠ ((.slice Ao28 t501.length co28) : Value).ownBlock ∧ some k_ ≠ ((.slice Ao29 t505.length co29) : Value).ownBlock) (.slice Ao27 t498.length co27) t498) ∧ Aside0 (Kd.S k38 38 wc w.heap.size (fun k_ => some k_ ≠ ((.slice Ao27 t498.length co27) : Value).ownBlock ∧ some k_ ≠ ((.slice Ao29 t505.length co29) : Value).ownBlock) (.slice Ao28 t501.length co28) t501) ∧ Aside0 (Kd.R k88 88 wc w.heap.size (fun _ => True) (.slice Ao29 t505.length co29) t505) ∧ Aside0 (wc.heap[gb489]? = some (.cells #[.string a0_0, (.slice A0_1 l0_1.length c0_1), (.slice A0_2 l0_2.length c0_2), (.slice A0_3 l0_3.length c0_3), .bool a0_4, (.slice A0_5 l0_5.length c0_5)] 26 (0, 0))) ∧ Aside0 (wc.heap[gb509]? = some (.cells #[.string t494, (.slice Ao26 t495.length co26), (.slice Ao27 t498.length co27), (.slice Ao28 t501.length co28), .bool t504, (.slice Ao29 t505.length co29)] 26 (0, 0))) ∧ Aside0 (Below w.heap.size w wc))
         case first =>
          have H := HC37.out
          clear HC37
          by_cases c38 : a2 ≥ 0
          ·rw [if_pos c38] at H
           have c38b0 : decide (0 ≤ a2) = true := decide_eq_true c38
           clear c38
           (first | rw [c38b0] | (simp only [i64_w, i32_w]; rw [c38b0]) | skip)
           have H' := aS_ H
           clear H
           go_wp2
           go_meet
           case rel => exact ⟨_, (decide (a2 < (t492.size : Int))), (by first | rfl | (simp; done) | (simp [*]; done)), H', ⟨by have := HJ3.out; have := HJ20.out; first | omega | exact Nat.le_refl _⟩, ⟨by (with_reducible repeat (first | apply Kd.R_alloc | apply Kd.R_drewN | apply Kd.R_drew)); exact HO_510001.out⟩, ⟨by (with_reducible repeat (first | apply Kd.S_alloc | apply Kd.S_drewN | apply Kd.S_drew)); exact HO_510002.out⟩, ⟨by (with_reducible repeat (first | apply Kd.S_alloc | apply Kd.S_drewN | apply Kd.S_drew)); exact HO_510003.out⟩, ⟨by (with_reducible repeat (first | apply Kd.R_alloc | apply Kd.R_drewN | apply Kd.R_drew)); exact HO_510005.out⟩, ⟨by (with_reducible repeat (first | refine bN ?_ _ | refine bD ?_ | refine bA ?_ _)); exact BK489.out⟩, ⟨by (with_reducible repeat (first | refine bN ?_ _ | refine bD ?_ | refine bA ?_ _)); exact BK509.out⟩, ⟨by repeat (first | (with_reducible first | exact HB.out | apply wA | apply wN | apply w1_ | refine wS ?_ GE489.out | refine wS ?_ GE509.out) | exact HB.out)⟩⟩
          ·rw [if_neg c38] at H
           have c38b0 : decide (0 ≤ a2) = false := decide_eq_false c38
           clear c38
           (first | rw [c38b0] | (simp only [i64_w, i32_w]; rw [c38b0]) | skip)
           have H' := aS_ H
           clear H
           go_wp2
           go_meet
           case rel => exact ⟨_, (false), (by first | rfl | (simp; done) | (simp [*]; done)), H', ⟨by have := HJ3.out; have := HJ20.out; first | omega | exact Nat.le_refl _⟩, ⟨by (with_reducible repeat (first | apply Kd.R_alloc | apply Kd.R_drewN | apply Kd.R_drew)); exact HO_510001.out⟩, ⟨by (with_reducible repeat (first | apply Kd.S_alloc | apply Kd.S_drewN | apply Kd.S_drew)); exact HO_510002.out⟩, ⟨by (with_reducible repeat (first | apply Kd.S_alloc | apply Kd.S_drewN | apply Kd.S_drew)); exact HO_510003.out⟩, ⟨by (with_reducible repeat (first | apply Kd.R_alloc | apply Kd.R_drewN | apply Kd.R_drew)); exact HO_510005.out⟩, ⟨by (with_reducible repeat (first | refine bN ?_ _ | refine bD ?_ | refine bA ?_ _)); exact BK489.out⟩, ⟨by (with_reducible repeat (first | refine bN ?_ _ | refine bD ?_ | refine bA ?_ _)); exact BK509.out⟩, ⟨by repeat (first | (with_reducible first | exact HB.out | apply wA | apply wN | apply w1_ | refine wS ?_ GE489.out | refine wS ?_ GE509.out) | exact HB.out)⟩⟩
         case rest =>
          clear HC37
          try clear c1
          try clear c2
          try clear p2
          try clear c3
          try clear c5
          try clear c6
          try clear c7
          try clear c8
          try clear c10
          try clear c12
          try clear c19
          try clear c19b0
          try clear c19b1
          try clear c24
          try clear c31
          try clear c32
          try clear c36
          try clear c38
          try clear c38b0
          try clear hcz10_0
          try clear hcz10_1
          try clear hcz10_2
          try clear hcz10_3
          try clear hcz10_4
          try clear hcz10_5
          try clear hcz17_0
          try clear hcz17_1
          try clear hcz17_2
          try clear hcz17_3
          try clear hcz17_4
          try clear hcz17_5
          try clear hcz25_0
          try clear hcz25_1
          try clear hcz25_2
          try clear hcz25_3
          try clear hcz25_4
          try clear hcz25_5
          try clear hcz33_0
          try clear hcz33_1
          try clear hcz33_2
          try clear hcz33_3
          try clear hcz33_4
          try clear hcz33_5
          try clear hcz34_0
          try clear hcz34_1
          try clear hcz34_2
          try clear hcz34_3
          try clear hcz34_4
          try clear hcz34_5
          try clear hcz8_0
          try clear hcz8_1
          try clear hcz8_2
          try clear hcz8_3
          try clear hcz8_4
          try clear hcz8_5
          try clear hfz10_0
          try clear hfz10_1
          try clear hfz10_2
          try clear hfz10_3
          try clear hfz10_4
          try clear hfz10_5
          try clear hfz17_0
          try clear hfz17_1
          try clear hfz17_2
          try clear hfz17_3
          try clear hfz17_4
          try clear hfz17_5
          try clear hfz25_0
          try clear hfz25_1
          try clear hfz25_2
          try clear hfz25_3
          try clear hfz25_4
          try clear hfz25_5
          try clear hfz33_0
          try clear hfz33_1
          try clear hfz33_2
          try clear hfz33_3
          try clear hfz33_4
          try clear hfz33_5
          try clear hfz34_0
          try clear hfz34_1
          try clear hfz34_2
          try clear hfz34_3
          try clear hfz34_4
          try clear hfz34_5
          try clear hfz8_0
          try clear hfz8_1
          try clear hfz8_2
          try clear hfz8_3
          try clear hfz8_4
          try clear hfz8_5
          try clear p2
          obtain ⟨kq, x53_36, rfl, HA, HJ36, HO_510001, HO_510002, HO_510003, HO_510005, BK489, BK509, HB⟩ := hcut
          cases kq with
          | zero => exact absurd HA.out (by simp [sl28PackBack.j2])
          | succ kj36 =>
           have H := HA.out
           clear HA
           simp only [sl28PackBack.j2] at H
           by_cases c39 : x53_36 = true
           ·subst c39
            have H1 : (if 0 ≤ a2 then (if a2 ≤ (t492.size : Int) then ((pack_Read.f kj36 (t492.extract 0 (a2 : Int).toNat)).bind fun bt511 => (if bt511.2.2.2.2.2.2 = 18 then (sl28PackBack.j3 kj36 a1) else (none))) else (none)) else (none)) = some r := by rw [if_pos rfl] at H; exact H
            clear H
            have H := H1
            clear H1
            by_cases c40 : 0 ≤ a2
            ·rw [if_pos c40] at H
             have c40b0 := eq_true c40
             have c40b1 : decide (0 ≤ a2) = true := decide_eq_true c40
             clear c40
             by_cases c41 : a2 ≤ (t492.size : Int)
             ·rw [if_pos c41] at H
              have c41b0 := eq_true c41
              have c41b1 : decide (a2 ≤ (t492.size : Int)) = true := decide_eq_true c41
              clear c41
              replace H := Option.bind_eq_some_iff.mp H
              obtain ⟨⟨t511, t512, t515, t518, t521, t522, t525⟩, A420, H⟩ := H
              replace H : (if t525 = 18 then (sl28PackBack.j3 kj36 a1) else (none)) = some r := H
              have A42 := aS_ A420
              clear A420
              by_cases c43 : t525 = 18
              ·rw [if_pos c43] at H
               have c43b0 : (t525 == 18) = true := beq_iff_eq.mpr c43
               have c43b1 : (t525 != 18) = false := bne_eq_false_iff_eq.mpr c43
               clear c43
               have H' := aS_ H
               clear H
               go_wp2_with (first | ((with_reducible refine gate_callee (f := 10) rfl ?_); refine goesL_ (some 58) rfl rfl Try.func10 (by kernel_rfl) rfl #[.string (t492.extract 0 (a2 : Int).toNat)] rfl (by (try simp only [List.map_toArray, List.map_cons, List.map_nil]); first | done | rfl | (simp only [List.length_drop, List.length_take]; rfl)) ?_; (with_reducible refine (pack_Read.calls kj36 (t492.extract 0 (a2 : Int).toNat) t511 t512 t515 t518 t521 t522 t525 _ A42.out).mono ?_); rintro e w44 ⟨v513, v516, v519, v523, rfl, ho0, ho1, ho2, ho3, hb⟩; refine ⟨_, rfl, ?_⟩; have n0_ := aS_ (Kd.R_elder' (by (with_reducible repeat (first | apply Kd.R_alloc | apply Kd.R_drewN | apply Kd.R_drew)); exact HO_510001.out) (Kd.R_base ho0) hb); have n1_ := aS_ (Kd.S_mono (Kd.S_told (Kd.S_told (Kd.S_told (Kd.S_old (by (with_reducible repeat (first | apply Kd.S_alloc | apply Kd.S_drewN | apply Kd.S_drew)); exact HO_510002.out) hb) (Kd.S_base ho1)) (Kd.S_base ho2)) (Kd.R_base ho3)) (fun _ h_ => h_.1)); have n2_ := aS_ (Kd.S_mono (Kd.S_told (Kd.S_told (Kd.S_told (Kd.S_old (by (with_reducible repeat (first | apply Kd.S_alloc | apply Kd.S_drewN | apply Kd.S_drew)); exact HO_510003.out) hb) (Kd.S_base ho1)) (Kd.S_base ho2)) (Kd.R_base ho3)) (fun _ h_ => h_.1)); have n3_ := aS_ (Kd.R_elder' (by (with_reducible repeat (first | apply Kd.R_alloc | apply Kd.R_drewN | apply Kd.R_drew)); exact HO_510005.out) (Kd.R_base ho3) hb); have n4_ := aS_ (Kd.R_lower (Kd.R_new' ho0 (Kd.R_lt (by (with_reducible repeat (first | apply Kd.R_alloc | apply Kd.R_drewN | apply Kd.R_drew)); exact HO_510001.out))) (below_size (by repeat (first | (with_reducible first | exact HB.out | apply wA | apply wN | apply w1_ | refine wS ?_ GE489.out | refine wS ?_ GE509.out) | exact HB.out)))); have n5_ := aS_ (Kd.S_lower (Kd.S_new' (Kd.S_new' (Kd.S_new' ho1 (Kd.S_lt (by (with_reducible repeat (first | apply Kd.S_alloc | apply Kd.S_drewN | apply Kd.S_drew)); exact HO_510002.out))) (Kd.S_lt (by (with_reducible repeat (first | apply Kd.S_alloc | apply Kd.S_drewN | apply Kd.S_drew)); exact HO_510003.out))) (Kd.R_lt (by (with_reducible repeat (first | apply Kd.R_alloc | apply Kd.R_drewN | apply Kd.R_drew)); exact HO_510005.out))) (below_size (by repeat (first | (with_reducible first | exact HB.out | apply wA | apply wN | apply w1_ | refine wS ?_ GE489.out | refine wS ?_ GE509.out) | exact HB.out)))); have n6_ := aS_ (Kd.S_lower (Kd.S_new' (Kd.S_new' (Kd.S_new' ho2 (Kd.S_lt (by (with_reducible repeat (first | apply Kd.S_alloc | apply Kd.S_drewN | apply Kd.S_drew)); exact HO_510002.out))) (Kd.S_lt (by (with_reducible repeat (first | apply Kd.S_alloc | apply Kd.S_drewN | apply Kd.S_drew)); exact HO_510003.out))) (Kd.R_lt (by (with_reducible repeat (first | apply Kd.R_alloc | apply Kd.R_drewN | apply Kd.R_drew)); exact HO_510005.out))) (below_size (by repeat (first | (with_reducible first | exact HB.out | apply wA | apply wN | apply w1_ | refine wS ?_ GE489.out | refine wS ?_ GE509.out) | exact HB.out)))); have n7_ := aS_ (Kd.R_lower (Kd.R_new' ho3 (Kd.R_lt (by (with_reducible repeat (first | apply Kd.R_alloc | apply Kd.R_drewN | apply Kd.R_drew)); exact HO_510005.out))) (below_size (by repeat (first | (with_reducible first | exact HB.out | apply wA | apply wN | apply w1_ | refine wS ?_ GE489.out | refine wS ?_ GE509.out) | exact HB.out)))); have n8_ := aS_ (blk_below (by (with_reducible repeat (first | refine bN ?_ _ | refine bD ?_ | refine bA ?_ _)); exact BK489.out) hb); have n9_ := aS_ (blk_below (by (with_reducible repeat (first | refine bN ?_ _ | refine bD ?_ | refine bA ?_ _)); exact BK509.out) hb); have n10_ := aS_ (below_step (by repeat (first | (with_reducible first | exact HB.out | apply wA | apply wN | apply w1_ | refine wS ?_ GE489.out | refine wS ?_ GE509.out) | exact HB.out)) hb); clear HO_510001; clear HO_510002; clear HO_510003; clear HO_510005; clear BK489; clear BK509; clear HB; have HO_510001 := n0_; have HO_510002 := n1_; have HO_510003 := n2_; have HO_510005 := n3_; have HO514 := n4_; have HO517 := n5_; have HO520 := n6_; have HO524 := n7_; have BK489 := n8_; have BK509 := n9_; have HB := n10_; clear n0_ n1_ n2_ n3_ n4_ n5_ n6_ n7_ n8_ n9_ n10_; (try clear hb); (try clear hb2); (try clear hk); (try clear hi); (try clear ho0); (try clear ho1); (try clear ho2); (try clear ho3)) | ((with_reducible refine gate_dst (N := 11) rfl ?_); (try (refine gate_guard (by rfl) ?_; dsimp only)); refine box_event ?hg (N := 11) ?hd (cs := #[.string (⟨#[]⟩ : ByteArray), .slice none 0 0, .slice none 0 0, .slice none 0 0, .bool false, .slice none 0 0]) (t := 26) ?hr ?_; (case hd => rfl); (case hg => rfl); (case hr => first | (go_simp; done) | (go_simp; rfl)); intro gb526 hg w45 hbox hb; have n0_ := aS_ (Kd.R_below (by (with_reducible repeat (first | apply Kd.R_alloc | apply Kd.R_drewN | apply Kd.R_drew)); exact HO_510001.out) hb); have n1_ := aS_ (Kd.S_below (by (with_reducible repeat (first | apply Kd.S_alloc | apply Kd.S_drewN | apply Kd.S_drew)); exact HO_510002.out) hb); have n2_ := aS_ (Kd.S_below (by (with_reducible repeat (first | apply Kd.S_alloc | apply Kd.S_drewN | apply Kd.S_drew)); exact HO_510003.out) hb); have n3_ := aS_ (Kd.R_below (by (with_reducible repeat (first | apply Kd.R_alloc | apply Kd.R_drewN | apply Kd.R_drew)); exact HO_510005.out) hb); have n4_ := aS_ (Kd.R_below (by (with_reducible repeat (first | apply Kd.R_alloc | apply Kd.R_drewN | apply Kd.R_drew)); exact HO514.out) hb); have n5_ := aS_ (Kd.S_below (by (with_reducible repeat (first | apply Kd.S_alloc | apply Kd.S_drewN | apply Kd.S_drew)); exact HO517.out) hb); have n6_ := aS_ (Kd.S_below (by (with_reducible repeat (first | apply Kd.S_alloc | apply Kd.S_drewN | apply Kd.S_drew)); exact HO520.out) hb); have n7_ := aS_ (Kd.R_below (by (with_reducible repeat (first | apply Kd.R_alloc | apply Kd.R_drewN | apply Kd.R_drew)); exact HO524.out) hb); have n8_ := aS_ (blk_below (by (with_reducible repeat (first | refine bN ?_ _ | refine bD ?_ | refine bA ?_ _)); exact BK489.out) hb); have n9_ := aS_ (blk_below (by (with_reducible repeat (first | refine bN ?_ _ | refine bD ?_ | refine bA ?_ _)); exact BK509.out) hb); have n10_ := aS_ (below_step (by repeat (first | (with_reducible first | exact HB.out | apply wA | apply wN | apply w1_ | refine wS ?_ GE489.out | refine wS ?_ GE509.out) | exact HB.out)) hb); have n11_ := aS_ (hbox); have n12_ := aS_ ((by rw [hg]; exact (below_size (by repeat (first | (with_reducible first | exact HB.out | apply wA | apply wN | apply w1_ | refine wS ?_ GE489.out | refine wS ?_ GE509.out) | exact HB.out))) : w.heap.size ≤ gb526)); have n13_ := n12_; have n14_ := aS_ ((by rw [hg]; exact Nat.ne_of_lt (blk_lt (g := gb489) (o := .cells #[.string a0_0, .slice A0_1 l0_1.length c0_1, .slice A0_2 l0_2.length c0_2, .slice A0_3 l0_3.length c0_3, .bool a0_4, .slice A0_5 l0_5.length c0_5] 26 (0, 0)) (by (with_reducible repeat (first | refine bN ?_ _ | refine bD ?_ | refine bA ?_ _)); exact BK489.out)) : gb489 ≠ gb526)); have n15_ := aS_ ((by rw [hg]; exact Nat.ne_of_gt (blk_lt (g := gb489) (o := .cells #[.string a0_0, .slice A0_1 l0_1.length c0_1, .slice A0_2 l0_2.length c0_2, .slice A0_3 l0_3.length c0_3, .bool a0_4, .slice A0_5 l0_5.length c0_5] 26 (0, 0)) (by (with_reducible repeat (first | refine bN ?_ _ | refine bD ?_ | refine bA ?_ _)); exact BK489.out)) : gb526 ≠ gb489)); have n16_ := aS_ ((by rw [hg]; exact Nat.ne_of_lt (blk_lt (g := gb509) (o := .cells #[.string t494, .slice Ao26 t495.length co26, .slice Ao27 t498.length co27, .slice Ao28 t501.length co28, .bool t504, .slice Ao29 t505.length co29] 26 (0, 0)) (by (with_reducible repeat (first | refine bN ?_ _ | refine bD ?_ | refine bA ?_ _)); exact BK509.out)) : gb509 ≠ gb526)); have n17_ := aS_ ((by rw [hg]; exact Nat.ne_of_gt (blk_lt (g := gb509) (o := .cells #[.string t494, .slice Ao26 t495.length co26, .slice Ao27 t498.length co27, .slice Ao28 t501.length co28, .bool t504, .slice Ao29 t505.length co29] 26 (0, 0)) (by (with_reducible repeat (first | refine bN ?_ _ | refine bD ?_ | refine bA ?_ _)); exact BK509.out)) : gb526 ≠ gb509)); clear HO_510001; clear HO_510002; clear HO_510003; clear HO_510005; clear HO514; clear HO517; clear HO520; clear HO524; clear BK489; clear BK509; clear HB; have HO_510001 := n0_; have HO_510002 := n1_; have HO_510003 := n2_; have HO_510005 := n3_; have HO514 := n4_; have HO517 := n5_; have HO520 := n6_; have HO524 := n7_; have BK489 := n8_; have BK509 := n9_; have HB := n10_; have BK526 := n11_; have GW526 := n12_; have GE526 := n13_; have NB489_526 := n14_; have NB526_489 := n15_; have NB509_526 := n16_; have NB526_509 := n17_; clear n0_ n1_ n2_ n3_ n4_ n5_ n6_ n7_ n8_ n9_ n10_ n11_ n12_ n13_ n14_ n15_ n16_ n17_; clear hb hbox hg; have hnb46 := NB526_489.out; have hnc46 := NB489_526.out; have hnb47 := NB526_509.out; have hnc47 := NB509_526.out; obtain ⟨hcz48_0, hcz48_1, hcz48_2, hcz48_3, hcz48_4, hcz48_5, hfz48_0, hfz48_1, hfz48_2, hfz48_3, hfz48_4, hfz48_5⟩ := c6_ BK526.out; obtain ⟨Ao49, co49, eo49⟩ := Kd.R_slice HO514.out; subst eo49; obtain ⟨Ao50, co50, eo50⟩ := Kd.S_slice HO517.out; subst eo50; obtain ⟨Ao51, co51, eo51⟩ := Kd.S_slice HO520.out; subst eo51; obtain ⟨Ao52, co52, eo52⟩ := Kd.R_slice HO524.out; subst eo52))
               go_meet
               case rel => exact ⟨_, H', ⟨by have := HJ3.out; have := HJ20.out; have := HJ36.out; first | omega | exact Nat.le_refl _⟩, ⟨by (with_reducible repeat (first | refine bN ?_ _ | refine bD ?_ | refine bA ?_ _)); refine blk_far ?_ NB489_526.out _; (with_reducible repeat (first | refine bN ?_ _ | refine bD ?_ | refine bA ?_ _)); refine blk_far ?_ NB489_526.out _; (with_reducible repeat (first | refine bN ?_ _ | refine bD ?_ | refine bA ?_ _)); refine blk_far ?_ NB489_526.out _; (with_reducible repeat (first | refine bN ?_ _ | refine bD ?_ | refine bA ?_ _)); refine blk_far ?_ NB489_526.out _; (with_reducible repeat (first | refine bN ?_ _ | refine bD ?_ | refine bA ?_ _)); refine blk_far ?_ NB489_526.out _; (with_reducible repeat (first | refine bN ?_ _ | refine bD ?_ | refine bA ?_ _)); refine blk_far ?_ NB489_526.out _; (with_reducible repeat (first | refine bN ?_ _ | refine bD ?_ | refine bA ?_ _)); exact BK489.out⟩, ⟨by repeat (first | (with_reducible first | exact HB.out | apply wA | apply wN | apply w1_ | refine wS ?_ GE489.out | refine wS ?_ GE509.out | refine wS ?_ GE526.out) | exact HB.out)⟩⟩
              ·rw [if_neg c43] at H
               exact absurd H (by simp)
             ·rw [if_neg c41] at H
              exact absurd H (by simp)
            ·rw [if_neg c40] at H
             exact absurd H (by simp)
           ·replace c39 := Bool.eq_false_iff.mpr c39
            subst c39
            have H1 : (sl28PackBack.j3 kj36 a1) = some r := by rw [if_neg (show ¬ (false = true) by decide)] at H; exact H
            clear H
            have H := H1
            clear H1
            have H' := aS_ H
            clear H
            go_wp2
            go_meet
            case rel => exact ⟨_, H', ⟨by have := HJ3.out; have := HJ20.out; have := HJ36.out; first | omega | exact Nat.le_refl _⟩, ⟨by (with_reducible repeat (first | refine bN ?_ _ | refine bD ?_ | refine bA ?_ _)); exact BK489.out⟩, ⟨by repeat (first | (with_reducible first | exact HB.out | apply wA | apply wN | apply w1_ | refine wS ?_ GE489.out | refine wS ?_ GE509.out) | exact HB.out)⟩⟩
     ·rw [if_neg c19] at H
      have c19b0 : (t493 == 0) = false := beq_eq_false_iff_ne.mpr c19
      have c19b1 : (t493 != 0) = true := bne_iff_ne.mpr c19
      (first | rw [c19b0] | (simp only [i64_w, i32_w]; rw [c19b0]) | skip)
      have H' := aS_ H
      clear H
      go_wp2
      go_meet
      case rel => exact ⟨_, H', ⟨by have := HJ3.out; first | omega | exact Nat.le_refl _⟩, ⟨by (with_reducible repeat (first | refine bN ?_ _ | refine bD ?_ | refine bA ?_ _)); exact BK489.out⟩, ⟨by repeat (first | (with_reducible first | exact HB.out | apply wA | apply wN | apply w1_ | refine wS ?_ GE489.out) | exact HB.out)⟩⟩
    case rest =>
     clear HC16
     try clear c1
     try clear c2
     try clear p2
     try clear c3
     try clear c4
     try clear c5
     try clear c6
     try clear c7
     try clear c8
     try clear c10
     try clear c12
     try clear c19
     try clear c19b0
     try clear c19b1
     try clear c24
     try clear c31
     try clear c32
     try clear c36
     try clear c38
     try clear c38b0
     try clear c39
     try clear c40
     try clear c40b0
     try clear c40b1
     try clear c41
     try clear c41b0
     try clear c41b1
     try clear c43
     try clear c43b0
     try clear c43b1
     try clear c46
     try clear c47
     try clear hcz10_0
     try clear hcz10_1
     try clear hcz10_2
     try clear hcz10_3
     try clear hcz10_4
     try clear hcz10_5
     try clear hcz17_0
     try clear hcz17_1
     try clear hcz17_2
     try clear hcz17_3
     try clear hcz17_4
     try clear hcz17_5
     try clear hcz25_0
     try clear hcz25_1
     try clear hcz25_2
     try clear hcz25_3
     try clear hcz25_4
     try clear hcz25_5
     try clear hcz33_0
     try clear hcz33_1
     try clear hcz33_2
     try clear hcz33_3
     try clear hcz33_4
     try clear hcz33_5
     try clear hcz34_0
     try clear hcz34_1
     try clear hcz34_2
     try clear hcz34_3
     try clear hcz34_4
     try clear hcz34_5
     try clear hcz48_0
     try clear hcz48_1
     try clear hcz48_2
     try clear hcz48_3
     try clear hcz48_4
     try clear hcz48_5
     try clear hcz8_0
     try clear hcz8_1
     try clear hcz8_2
     try clear hcz8_3
     try clear hcz8_4
     try clear hcz8_5
     try clear hfz10_0
     try clear hfz10_1
     try clear hfz10_2
     try clear hfz10_3
     try clear hfz10_4
     try clear hfz10_5
     try clear hfz17_0
     try clear hfz17_1
     try clear hfz17_2
     try clear hfz17_3
     try clear hfz17_4
     try clear hfz17_5
     try clear hfz25_0
     try clear hfz25_1
     try clear hfz25_2
     try clear hfz25_3
     try clear hfz25_4
     try clear hfz25_5
     try clear hfz33_0
     try clear hfz33_1
     try clear hfz33_2
     try clear hfz33_3
     try clear hfz33_4
     try clear hfz33_5
     try clear hfz34_0
     try clear hfz34_1
     try clear hfz34_2
     try clear hfz34_3
     try clear hfz34_4
     try clear hfz34_5
     try clear hfz48_0
     try clear hfz48_1
     try clear hfz48_2
     try clear hfz48_3
     try clear hfz48_4
     try clear hfz48_5
     try clear hfz8_0
     try clear hfz8_1
     try clear hfz8_2
     try clear hfz8_3
     try clear hfz8_4
     try clear hfz8_5
     try clear p2
     obtain ⟨kq, HA, HJ15, BK489, HB⟩ := hcut
     cases kq with
     | zero => exact absurd HA.out (by simp [sl28PackBack.j3])
     | succ kj15 =>
      have H := HA.out
      clear HA
      simp only [sl28PackBack.j3] at H
      replace H := Option.bind_eq_some_iff.mp H
      obtain ⟨⟨t527, t528, t531, t534, t537, t538, t541⟩, A530, H⟩ := H
      replace H : (if t541 = 0 then ((pack_Lay.f kj15 t527 t528 t531 t534 t537 t538).bind fun bt543 => (if bt543.1.toList = a1.toList then (if bt543.2 = 0 then ((sl28lives.f kj15).bind fun t545 => (some t545)) else (none)) else (none))) else ((sr25Same.f kj15 t527 t528 t531 t534 t537 t538 (⟨#[]⟩ : ByteArray) ([] : List (S49)) ([] : List (S38)) ([] : List (S38)) false ([] : List (S88))).bind fun t546 => (if t546 = true then ((sl28lives.f kj15).bind fun t547 => (some t547)) else (none)))) = some r := H
      have A53 := aS_ A530
      clear A530
      by_cases c54 : t541 = 0
      ·rw [if_pos c54] at H
       have c54b0 : (t541 == 0) = true := beq_iff_eq.mpr c54
       have c54b1 : (t541 != 0) = false := bne_eq_false_iff_eq.mpr c54
       clear c54
       replace H := Option.bind_eq_some_iff.mp H
       obtain ⟨⟨t543, t544⟩, A550, H⟩ := H
       replace H : (if t543.toList = a1.toList then (if t544 = 0 then ((sl28lives.f kj15).bind fun t545 => (some t545)) else (none)) else (none)) = some r := H
       have A55 := aS_ A550
       clear A550
       by_cases c56 : t543.toList = a1.toList
       ·rw [if_pos c56] at H
        have c56b0 : (t543.toList == a1.toList) = true := beq_iff_eq.mpr c56
        have c56b1 : (t543.toList != a1.toList) = false := bne_eq_false_iff_eq.mpr c56
        clear c56
        by_cases c57 : t544 = 0
        ·rw [if_pos c57] at H
         have c57b0 : (t544 == 0) = true := beq_iff_eq.mpr c57
         have c57b1 : (t544 != 0) = false := bne_eq_false_iff_eq.mpr c57
         clear c57
         replace H := Option.bind_eq_some_iff.mp H
         obtain ⟨t545, A580, H⟩ := H
         replace H : (some t545) = some r := H
         have A58 := aS_ A580
         clear A580
         obtain rfl := Option.some.inj H
         go_wp2_with (first | ((with_reducible refine gate_callee (f := 10) rfl ?_); refine goesL_ (some 65) rfl rfl Try.func10 (by kernel_rfl) rfl #[.string a1] rfl (by (try simp only [List.map_toArray, List.map_cons, List.map_nil]); first | done | rfl | (simp only [List.length_drop, List.length_take]; rfl)) ?_; (with_reducible refine (pack_Read.calls kj15 a1 t527 t528 t531 t534 t537 t538 t541 _ A53.out).mono ?_); rintro e w59 ⟨v529, v532, v535, v539, rfl, ho0, ho1, ho2, ho3, hb⟩; refine ⟨_, rfl, ?_⟩; have HO530 := aS_ (Kd.R_lower ho0 (below_size (by repeat (first | (with_reducible first | exact HB.out | apply wA | apply wN | apply w1_ | refine wS ?_ GE489.out) | exact HB.out)))); have HO533 := aS_ (Kd.S_lower ho1 (below_size (by repeat (first | (with_reducible first | exact HB.out | apply wA | apply wN | apply w1_ | refine wS ?_ GE489.out) | exact HB.out)))); have HO536 := aS_ (Kd.S_lower ho2 (below_size (by repeat (first | (with_reducible first | exact HB.out | apply wA | apply wN | apply w1_ | refine wS ?_ GE489.out) | exact HB.out)))); have HO540 := aS_ (Kd.R_lower ho3 (below_size (by repeat (first | (with_reducible first | exact HB.out | apply wA | apply wN | apply w1_ | refine wS ?_ GE489.out) | exact HB.out)))); replace BK489 := aS_ (blk_below (by (with_reducible repeat (first | refine bN ?_ _ | refine bD ?_ | refine bA ?_ _)); exact BK489.out) hb); replace HB := aS_ (below_step (by repeat (first | (with_reducible first | exact HB.out | apply wA | apply wN | apply w1_ | refine wS ?_ GE489.out) | exact HB.out)) hb); (try clear hb); (try clear hb2); (try clear hk); (try clear hi); (try clear ho0); (try clear ho1); (try clear ho2); (try clear ho3)) | ((with_reducible refine gate_dst (N := 13) rfl ?_); (try (refine gate_guard (by rfl) ?_; dsimp only)); refine box_event ?hg (N := 13) ?hd (cs := #[.string (⟨#[]⟩ : ByteArray), .slice none 0 0, .slice none 0 0, .slice none 0 0, .bool false, .slice none 0 0]) (t := 26) ?hr ?_; (case hd => rfl); (case hg => rfl); (case hr => first | (go_simp; done) | (go_simp; rfl)); intro gb542 hg w60 hbox hb; have n0_ := aS_ (Kd.R_below (by (with_reducible repeat (first | apply Kd.R_alloc | apply Kd.R_drewN | apply Kd.R_drew)); exact HO530.out) hb); have n1_ := aS_ (Kd.S_below (by (with_reducible repeat (first | apply Kd.S_alloc | apply Kd.S_drewN | apply Kd.S_drew)); exact HO533.out) hb); have n2_ := aS_ (Kd.S_below (by (with_reducible repeat (first | apply Kd.S_alloc | apply Kd.S_drewN | apply Kd.S_drew)); exact HO536.out) hb); have n3_ := aS_ (Kd.R_below (by (with_reducible repeat (first | apply Kd.R_alloc | apply Kd.R_drewN | apply Kd.R_drew)); exact HO540.out) hb); have n4_ := aS_ (blk_below (by (with_reducible repeat (first | refine bN ?_ _ | refine bD ?_ | refine bA ?_ _)); exact BK489.out) hb); have n5_ := aS_ (below_step (by repeat (first | (with_reducible first | exact HB.out | apply wA | apply wN | apply w1_ | refine wS ?_ GE489.out) | exact HB.out)) hb); have n6_ := aS_ (hbox); have n7_ := aS_ ((by rw [hg]; exact (below_size (by repeat (first | (with_reducible first | exact HB.out | apply wA | apply wN | apply w1_ | refine wS ?_ GE489.out) | exact HB.out))) : w.heap.size ≤ gb542)); have n8_ := n7_; have n9_ := aS_ ((by rw [hg]; exact Nat.ne_of_lt (blk_lt (g := gb489) (o := .cells #[.string a0_0, .slice A0_1 l0_1.length c0_1, .slice A0_2 l0_2.length c0_2, .slice A0_3 l0_3.length c0_3, .bool a0_4, .slice A0_5 l0_5.length c0_5] 26 (0, 0)) (by (with_reducible repeat (first | refine bN ?_ _ | refine bD ?_ | refine bA ?_ _)); exact BK489.out)) : gb489 ≠ gb542)); have n10_ := aS_ ((by rw [hg]; exact Nat.ne_of_gt (blk_lt (g := gb489) (o := .cells #[.string a0_0, .slice A0_1 l0_1.length c0_1, .slice A0_2 l0_2.length c0_2, .slice A0_3 l0_3.length c0_3, .bool a0_4, .slice A0_5 l0_5.length c0_5] 26 (0, 0)) (by (with_reducible repeat (first | refine bN ?_ _ | refine bD ?_ | refine bA ?_ _)); exact BK489.out)) : gb542 ≠ gb489)); clear HO530; clear HO533; clear HO536; clear HO540; clear BK489; clear HB; have HO530 := n0_; have HO533 := n1_; have HO536 := n2_; have HO540 := n3_; have BK489 := n4_; have HB := n5_; have BK542 := n6_; have GW542 := n7_; have GE542 := n8_; have NB489_542 := n9_; have NB542_489 := n10_; clear n0_ n1_ n2_ n3_ n4_ n5_ n6_ n7_ n8_ n9_ n10_; clear hb hbox hg; have hnb61 := NB542_489.out; have hnc61 := NB489_542.out; obtain ⟨hcz62_0, hcz62_1, hcz62_2, hcz62_3, hcz62_4, hcz62_5, hfz62_0, hfz62_1, hfz62_2, hfz62_3, hfz62_4, hfz62_5⟩ := c6_ BK542.out; obtain ⟨Ao63, co63, eo63⟩ := Kd.R_slice HO530.out; subst eo63; obtain ⟨Ao64, co64, eo64⟩ := Kd.S_slice HO533.out; subst eo64; obtain ⟨Ao65, co65, eo65⟩ := Kd.S_slice HO536.out; subst eo65; obtain ⟨Ao66, co66, eo66⟩ := Kd.R_slice HO540.out; subst eo66) | ((with_reducible refine gate_callee (f := 8) rfl ?_); refine goesL_ (some 78) rfl rfl Try.func8 (by kernel_rfl) rfl #[.agg #[.string t527, .slice Ao63 t528.length co63, .slice Ao64 t531.length co64, .slice Ao65 t534.length co65, .bool t537, .slice Ao66 t538.length co66]] rfl (by (try simp only [List.map_toArray, List.map_cons, List.map_nil]); first | done | rfl | (simp only [List.length_drop, List.length_take]; rfl)) ?_; (with_reducible refine (pack_Lay.calls kj15 t527 _ _ t528 _ _ t531 _ _ t534 t537 _ _ t538 t543 t544 _ ?side1 ?side2 ?side3 ?side4 ?side5 ?side6 ?side7 ?side8 A55.out).mono ?_); (case side1 => refine (Kd.R_reads' (e := 49) (base := w.heap.size) (ok := fun k_ => True) (n := t528.length) (c := co63) ?_).2.2; exact (by (with_reducible repeat (first | apply Kd.R_alloc | apply Kd.R_drewN | apply Kd.R_drew)); exact (Kd.R_mono (Kd.R_far (p := ⟨gb542, 5, none⟩) (Kd.R_far (p := ⟨gb542, 4, none⟩) (Kd.R_far (p := ⟨gb542, 3, none⟩) (Kd.R_far (p := ⟨gb542, 2, none⟩) (Kd.R_far (p := ⟨gb542, 1, none⟩) (Kd.R_far (p := ⟨gb542, 0, none⟩) (Kd.R_types HO530.out BK542.out (by decide)) (fun _ hk => hk.2) (.string t527)) (fun _ hk => hk.2) (.slice Ao63 t528.length co63)) (fun _ hk => hk.2) (.slice Ao64 t531.length co64)) (fun _ hk => hk.2) (.slice Ao65 t534.length co65)) (fun _ hk => hk.2) (.bool t537)) (fun _ hk => hk.2) (.slice Ao66 t538.length co66)) (fun _ h_ => h_.1)))); (case side2 => exact (Kd.R_reads' HO530.out).2.1); (case side3 => refine (Kd.S_reads' (e := 38) (base := w.heap.size) (ok := fun k_ => (some k_ ≠ (.slice Ao65 t534.length co65 : Value).ownBlock ∧ some k_ ≠ (.slice Ao66 t538.length co66 : Value).ownBlock)) (n := t531.length) (c := co64) ?_).2.2; exact (by (with_reducible repeat (first | apply Kd.S_alloc | apply Kd.S_drewN | apply Kd.S_drew)); exact (Kd.S_mono (Kd.S_far (p := ⟨gb542, 5, none⟩) (Kd.S_far (p := ⟨gb542, 4, none⟩) (Kd.S_far (p := ⟨gb542, 3, none⟩) (Kd.S_far (p := ⟨gb542, 2, none⟩) (Kd.S_far (p := ⟨gb542, 1, none⟩) (Kd.S_far (p := ⟨gb542, 0, none⟩) (Kd.S_types HO533.out BK542.out (by decide)) (fun _ hk => hk.2) (.string t527)) (fun _ hk => hk.2) (.slice Ao63 t528.length co63)) (fun _ hk => hk.2) (.slice Ao64 t531.length co64)) (fun _ hk => hk.2) (.slice Ao65 t534.length co65)) (fun _ hk => hk.2) (.bool t537)) (fun _ hk => hk.2) (.slice Ao66 t538.length co66)) (fun _ h_ => h_.1)))); (case side4 => exact (Kd.S_reads' HO533.out).2.1); (case side5 => refine (Kd.S_reads' (e := 38) (base := w.heap.size) (ok := fun k_ => (some k_ ≠ (.slice Ao64 t531.length co64 : Value).ownBlock ∧ some k_ ≠ (.slice Ao66 t538.length co66 : Value).ownBlock)) (n := t534.length) (c := co65) ?_).2.2; exact (by (with_reducible repeat (first | apply Kd.S_alloc | apply Kd.S_drewN | apply Kd.S_drew)); exact (Kd.S_mono (Kd.S_far (p := ⟨gb542, 5, none⟩) (Kd.S_far (p := ⟨gb542, 4, none⟩) (Kd.S_far (p := ⟨gb542, 3, none⟩) (Kd.S_far (p := ⟨gb542, 2, none⟩) (Kd.S_far (p := ⟨gb542, 1, none⟩) (Kd.S_far (p := ⟨gb542, 0, none⟩) (Kd.S_types HO536.out BK542.out (by decide)) (fun _ hk => hk.2) (.string t527)) (fun _ hk => hk.2) (.slice Ao63 t528.length co63)) (fun _ hk => hk.2) (.slice Ao64 t531.length co64)) (fun _ hk => hk.2) (.slice Ao65 t534.length co65)) (fun _ hk => hk.2) (.bool t537)) (fun _ hk => hk.2) (.slice Ao66 t538.length co66)) (fun _ h_ => h_.1)))); (case side6 => exact (Kd.S_reads' HO536.out).2.1); (case side7 => refine (Kd.R_reads' (e := 88) (base := w.heap.size) (ok := fun k_ => True) (n := t538.length) (c := co66) ?_).2.2; exact (by (with_reducible repeat (first | apply Kd.R_alloc | apply Kd.R_drewN | apply Kd.R_drew)); exact (Kd.R_mono (Kd.R_far (p := ⟨gb542, 5, none⟩) (Kd.R_far (p := ⟨gb542, 4, none⟩) (Kd.R_far (p := ⟨gb542, 3, none⟩) (Kd.R_far (p := ⟨gb542, 2, none⟩) (Kd.R_far (p := ⟨gb542, 1, none⟩) (Kd.R_far (p := ⟨gb542, 0, none⟩) (Kd.R_types HO540.out BK542.out (by decide)) (fun _ hk => hk.2) (.string t527)) (fun _ hk => hk.2) (.slice Ao63 t528.length co63)) (fun _ hk => hk.2) (.slice Ao64 t531.length co64)) (fun _ hk => hk.2) (.slice Ao65 t534.length co65)) (fun _ hk => hk.2) (.bool t537)) (fun _ hk => hk.2) (.slice Ao66 t538.length co66)) (fun _ h_ => h_.1)))); (case side8 => exact (Kd.R_reads' HO540.out).2.1); rintro e w67 ⟨rfl, hb⟩; refine ⟨_, rfl, ?_⟩; replace HO530 := aS_ (Kd.R_below (by (with_reducible repeat (first | apply Kd.R_alloc | apply Kd.R_drewN | apply Kd.R_drew)); exact (Kd.R_mono (Kd.R_far (p := ⟨gb542, 5, none⟩) (Kd.R_far (p := ⟨gb542, 4, none⟩) (Kd.R_far (p := ⟨gb542, 3, none⟩) (Kd.R_far (p := ⟨gb542, 2, none⟩) (Kd.R_far (p := ⟨gb542, 1, none⟩) (Kd.R_far (p := ⟨gb542, 0, none⟩) (Kd.R_types HO530.out BK542.out (by decide)) (fun _ hk => hk.2) (.string t527)) (fun _ hk => hk.2) (.slice Ao63 t528.length co63)) (fun _ hk => hk.2) (.slice Ao64 t531.length co64)) (fun _ hk => hk.2) (.slice Ao65 t534.length co65)) (fun _ hk => hk.2) (.bool t537)) (fun _ hk => hk.2) (.slice Ao66 t538.length co66)) (fun _ h_ => h_.1))) hb); replace HO533 := aS_ (Kd.S_below (by (with_reducible repeat (first | apply Kd.S_alloc | apply Kd.S_drewN | apply Kd.S_drew)); exact (Kd.S_mono (Kd.S_far (p := ⟨gb542, 5, none⟩) (Kd.S_far (p := ⟨gb542, 4, none⟩) (Kd.S_far (p := ⟨gb542, 3, none⟩) (Kd.S_far (p := ⟨gb542, 2, none⟩) (Kd.S_far (p := ⟨gb542, 1, none⟩) (Kd.S_far (p := ⟨gb542, 0, none⟩) (Kd.S_types HO533.out BK542.out (by decide)) (fun _ hk => hk.2) (.string t527)) (fun _ hk => hk.2) (.slice Ao63 t528.length co63)) (fun _ hk => hk.2) (.slice Ao64 t531.length co64)) (fun _ hk => hk.2) (.slice Ao65 t534.length co65)) (fun _ hk => hk.2) (.bool t537)) (fun _ hk => hk.2) (.slice Ao66 t538.length co66)) (fun _ h_ => h_.1))) hb); replace HO536 := aS_ (Kd.S_below (by (with_reducible repeat (first | apply Kd.S_alloc | apply Kd.S_drewN | apply Kd.S_drew)); exact (Kd.S_mono (Kd.S_far (p := ⟨gb542, 5, none⟩) (Kd.S_far (p := ⟨gb542, 4, none⟩) (Kd.S_far (p := ⟨gb542, 3, none⟩) (Kd.S_far (p := ⟨gb542, 2, none⟩) (Kd.S_far (p := ⟨gb542, 1, none⟩) (Kd.S_far (p := ⟨gb542, 0, none⟩) (Kd.S_types HO536.out BK542.out (by decide)) (fun _ hk => hk.2) (.string t527)) (fun _ hk => hk.2) (.slice Ao63 t528.length co63)) (fun _ hk => hk.2) (.slice Ao64 t531.length co64)) (fun _ hk => hk.2) (.slice Ao65 t534.length co65)) (fun _ hk => hk.2) (.bool t537)) (fun _ hk => hk.2) (.slice Ao66 t538.length co66)) (fun _ h_ => h_.1))) hb); replace HO540 := aS_ (Kd.R_below (by (with_reducible repeat (first | apply Kd.R_alloc | apply Kd.R_drewN | apply Kd.R_drew)); exact (Kd.R_mono (Kd.R_far (p := ⟨gb542, 5, none⟩) (Kd.R_far (p := ⟨gb542, 4, none⟩) (Kd.R_far (p := ⟨gb542, 3, none⟩) (Kd.R_far (p := ⟨gb542, 2, none⟩) (Kd.R_far (p := ⟨gb542, 1, none⟩) (Kd.R_far (p := ⟨gb542, 0, none⟩) (Kd.R_types HO540.out BK542.out (by decide)) (fun _ hk => hk.2) (.string t527)) (fun _ hk => hk.2) (.slice Ao63 t528.length co63)) (fun _ hk => hk.2) (.slice Ao64 t531.length co64)) (fun _ hk => hk.2) (.slice Ao65 t534.length co65)) (fun _ hk => hk.2) (.bool t537)) (fun _ hk => hk.2) (.slice Ao66 t538.length co66)) (fun _ h_ => h_.1))) hb); replace BK489 := aS_ (blk_below (g := gb489) (o := .cells #[.string a0_0, .slice A0_1 l0_1.length c0_1, .slice A0_2 l0_2.length c0_2, .slice A0_3 l0_3.length c0_3, .bool a0_4, .slice A0_5 l0_5.length c0_5] 26 (0, 0)) (by (with_reducible repeat (first | refine bN ?_ _ | refine bD ?_ | refine bA ?_ _)); refine blk_far ?_ NB489_542.out _; (with_reducible repeat (first | refine bN ?_ _ | refine bD ?_ | refine bA ?_ _)); refine blk_far ?_ NB489_542.out _; (with_reducible repeat (first | refine bN ?_ _ | refine bD ?_ | refine bA ?_ _)); refine blk_far ?_ NB489_542.out _; (with_reducible repeat (first | refine bN ?_ _ | refine bD ?_ | refine bA ?_ _)); refine blk_far ?_ NB489_542.out _; (with_reducible repeat (first | refine bN ?_ _ | refine bD ?_ | refine bA ?_ _)); refine blk_far ?_ NB489_542.out _; (with_reducible repeat (first | refine bN ?_ _ | refine bD ?_ | refine bA ?_ _)); refine blk_far ?_ NB489_542.out _; (with_reducible repeat (first | refine bN ?_ _ | refine bD ?_ | refine bA ?_ _)); exact BK489.out) hb); replace BK542 := aS_ (blk_below (g := gb542) (o := .cells #[.string t527, .slice Ao63 t528.length co63, .slice Ao64 t531.length co64, .slice Ao65 t534.length co65, .bool t537, .slice Ao66 t538.length co66] 26 (0, 0)) (by (with_reducible repeat (first | refine bN ?_ _ | refine bD ?_ | refine bA ?_ _)); refine blk_put (cs := #[.string t527, .slice Ao63 t528.length co63, .slice Ao64 t531.length co64, .slice Ao65 t534.length co65, .bool t537, .slice none 0 0]) ?_ 5 _ rfl; (with_reducible repeat (first | refine bN ?_ _ | refine bD ?_ | refine bA ?_ _)); refine blk_put (cs := #[.string t527, .slice Ao63 t528.length co63, .slice Ao64 t531.length co64, .slice Ao65 t534.length co65, .bool false, .slice none 0 0]) ?_ 4 _ rfl; (with_reducible repeat (first | refine bN ?_ _ | refine bD ?_ | refine bA ?_ _)); refine blk_put (cs := #[.string t527, .slice Ao63 t528.length co63, .slice Ao64 t531.length co64, .slice none 0 0, .bool false, .slice none 0 0]) ?_ 3 _ rfl; (with_reducible repeat (first | refine bN ?_ _ | refine bD ?_ | refine bA ?_ _)); refine blk_put (cs := #[.string t527, .slice Ao63 t528.length co63, .slice none 0 0, .slice none 0 0, .bool false, .slice none 0 0]) ?_ 2 _ rfl; (with_reducible repeat (first | refine bN ?_ _ | refine bD ?_ | refine bA ?_ _)); refine blk_put (cs := #[.string t527, .slice none 0 0, .slice none 0 0, .slice none 0 0, .bool false, .slice none 0 0]) ?_ 1 _ rfl; (with_reducible repeat (first | refine bN ?_ _ | refine bD ?_ | refine bA ?_ _)); refine blk_put (cs := #[.string (⟨#[]⟩ : ByteArray), .slice none 0 0, .slice none 0 0, .slice none 0 0, .bool false, .slice none 0 0]) ?_ 0 _ rfl; (with_reducible repeat (first | refine bN ?_ _ | refine bD ?_ | refine bA ?_ _)); exact BK542.out) hb); replace HB := aS_ (below_step (by repeat (first | (with_reducible first | exact HB.out | apply wA | apply wN | apply w1_ | refine wS ?_ GE489.out | refine wS ?_ GE542.out) | exact HB.out)) hb); (try clear hb); (try clear hb2); (try clear hk); (try clear hi)) | (go_at_call 7; (with_reducible refine (sl28lives.calls kj15  t545 _ A58.out).mono ?_); rintro e w68 ⟨rfl, hb⟩; replace HO530 := aS_ (Kd.R_below (by (with_reducible repeat (first | apply Kd.R_alloc | apply Kd.R_drewN | apply Kd.R_drew)); exact HO530.out) hb); replace HO533 := aS_ (Kd.S_below (by (with_reducible repeat (first | apply Kd.S_alloc | apply Kd.S_drewN | apply Kd.S_drew)); exact HO533.out) hb); replace HO536 := aS_ (Kd.S_below (by (with_reducible repeat (first | apply Kd.S_alloc | apply Kd.S_drewN | apply Kd.S_drew)); exact HO536.out) hb); replace HO540 := aS_ (Kd.R_below (by (with_reducible repeat (first | apply Kd.R_alloc | apply Kd.R_drewN | apply Kd.R_drew)); exact HO540.out) hb); replace BK489 := aS_ (blk_below (by (with_reducible repeat (first | refine bN ?_ _ | refine bD ?_ | refine bA ?_ _)); exact BK489.out) hb); replace BK542 := aS_ (blk_below (by (with_reducible repeat (first | refine bN ?_ _ | refine bD ?_ | refine bA ?_ _)); exact BK542.out) hb); replace HB := aS_ (below_step (by repeat (first | (with_reducible first | exact HB.out | apply wA | apply wN | apply w1_ | refine wS ?_ GE489.out | refine wS ?_ GE542.out) | exact HB.out)) hb); (try clear hb); (try clear hb2); (try clear hk); (try clear hi)))
         go_ret
         exact ⟨by first | rfl | (simp [errW_none, errW_some] <;> rfl) | (simp [*, errW_none, errW_some] <;> rfl), by repeat (first | (with_reducible first | exact HB.out | apply wA | apply wN | apply w1_ | refine wS ?_ GE489.out | refine wS ?_ GE542.out) | exact HB.out)⟩
        ·rw [if_neg c57] at H
         exact absurd H (by simp)
       ·rw [if_neg c56] at H
        exact absurd H (by simp)
      ·rw [if_neg c54] at H
       have c54b0 : (t541 == 0) = false := beq_eq_false_iff_ne.mpr c54
       have c54b1 : (t541 != 0) = true := bne_iff_ne.mpr c54
       replace H := Option.bind_eq_some_iff.mp H
       obtain ⟨t546, A690, H⟩ := H
       replace H : (if t546 = true then ((sl28lives.f kj15).bind fun t547 => (some t547)) else (none)) = some r := H
       have A69 := aS_ A690
       clear A690
       by_cases c70 : t546 = true
       ·subst c70
        have H1 : ((sl28lives.f kj15).bind fun t547 => (some t547)) = some r := by rw [if_pos rfl] at H; exact H
        clear H
        have H := H1
        clear H1
        replace H := Option.bind_eq_some_iff.mp H
        obtain ⟨t547, A710, H⟩ := H
        replace H : (some t547) = some r := H
        have A71 := aS_ A710
        clear A710
        obtain rfl := Option.some.inj H
        go_wp2_with (first | ((with_reducible refine gate_callee (f := 10) rfl ?_); refine goesL_ (some 65) rfl rfl Try.func10 (by kernel_rfl) rfl #[.string a1] rfl (by (try simp only [List.map_toArray, List.map_cons, List.map_nil]); first | done | rfl | (simp only [List.length_drop, List.length_take]; rfl)) ?_; (with_reducible refine (pack_Read.calls kj15 a1 t527 t528 t531 t534 t537 t538 t541 _ A53.out).mono ?_); rintro e w72 ⟨v529, v532, v535, v539, rfl, ho0, ho1, ho2, ho3, hb⟩; refine ⟨_, rfl, ?_⟩; have HO530 := aS_ (Kd.R_lower ho0 (below_size (by repeat (first | (with_reducible first | exact HB.out | apply wA | apply wN | apply w1_ | refine wS ?_ GE489.out) | exact HB.out)))); have HO533 := aS_ (Kd.S_lower ho1 (below_size (by repeat (first | (with_reducible first | exact HB.out | apply wA | apply wN | apply w1_ | refine wS ?_ GE489.out) | exact HB.out)))); have HO536 := aS_ (Kd.S_lower ho2 (below_size (by repeat (first | (with_reducible first | exact HB.out | apply wA | apply wN | apply w1_ | refine wS ?_ GE489.out) | exact HB.out)))); have HO540 := aS_ (Kd.R_lower ho3 (below_size (by repeat (first | (with_reducible first | exact HB.out | apply wA | apply wN | apply w1_ | refine wS ?_ GE489.out) | exact HB.out)))); replace BK489 := aS_ (blk_below (by (with_reducible repeat (first | refine bN ?_ _ | refine bD ?_ | refine bA ?_ _)); exact BK489.out) hb); replace HB := aS_ (below_step (by repeat (first | (with_reducible first | exact HB.out | apply wA | apply wN | apply w1_ | refine wS ?_ GE489.out) | exact HB.out)) hb); (try clear hb); (try clear hb2); (try clear hk); (try clear hi); (try clear ho0); (try clear ho1); (try clear ho2); (try clear ho3)) | ((with_reducible refine gate_dst (N := 13) rfl ?_); (try (refine gate_guard (by rfl) ?_; dsimp only)); refine box_event ?hg (N := 13) ?hd (cs := #[.string (⟨#[]⟩ : ByteArray), .slice none 0 0, .slice none 0 0, .slice none 0 0, .bool false, .slice none 0 0]) (t := 26) ?hr ?_; (case hd => rfl); (case hg => rfl); (case hr => first | (go_simp; done) | (go_simp; rfl)); intro gb542 hg w73 hbox hb; have n0_ := aS_ (Kd.R_below (by (with_reducible repeat (first | apply Kd.R_alloc | apply Kd.R_drewN | apply Kd.R_drew)); exact HO530.out) hb); have n1_ := aS_ (Kd.S_below (by (with_reducible repeat (first | apply Kd.S_alloc | apply Kd.S_drewN | apply Kd.S_drew)); exact HO533.out) hb); have n2_ := aS_ (Kd.S_below (by (with_reducible repeat (first | apply Kd.S_alloc | apply Kd.S_drewN | apply Kd.S_drew)); exact HO536.out) hb); have n3_ := aS_ (Kd.R_below (by (with_reducible repeat (first | apply Kd.R_alloc | apply Kd.R_drewN | apply Kd.R_drew)); exact HO540.out) hb); have n4_ := aS_ (blk_below (by (with_reducible repeat (first | refine bN ?_ _ | refine bD ?_ | refine bA ?_ _)); exact BK489.out) hb); have n5_ := aS_ (below_step (by repeat (first | (with_reducible first | exact HB.out | apply wA | apply wN | apply w1_ | refine wS ?_ GE489.out) | exact HB.out)) hb); have n6_ := aS_ (hbox); have n7_ := aS_ ((by rw [hg]; exact (below_size (by repeat (first | (with_reducible first | exact HB.out | apply wA | apply wN | apply w1_ | refine wS ?_ GE489.out) | exact HB.out))) : w.heap.size ≤ gb542)); have n8_ := n7_; have n9_ := aS_ ((by rw [hg]; exact Nat.ne_of_lt (blk_lt (g := gb489) (o := .cells #[.string a0_0, .slice A0_1 l0_1.length c0_1, .slice A0_2 l0_2.length c0_2, .slice A0_3 l0_3.length c0_3, .bool a0_4, .slice A0_5 l0_5.length c0_5] 26 (0, 0)) (by (with_reducible repeat (first | refine bN ?_ _ | refine bD ?_ | refine bA ?_ _)); exact BK489.out)) : gb489 ≠ gb542)); have n10_ := aS_ ((by rw [hg]; exact Nat.ne_of_gt (blk_lt (g := gb489) (o := .cells #[.string a0_0, .slice A0_1 l0_1.length c0_1, .slice A0_2 l0_2.length c0_2, .slice A0_3 l0_3.length c0_3, .bool a0_4, .slice A0_5 l0_5.length c0_5] 26 (0, 0)) (by (with_reducible repeat (first | refine bN ?_ _ | refine bD ?_ | refine bA ?_ _)); exact BK489.out)) : gb542 ≠ gb489)); clear HO530; clear HO533; clear HO536; clear HO540; clear BK489; clear HB; have HO530 := n0_; have HO533 := n1_; have HO536 := n2_; have HO540 := n3_; have BK489 := n4_; have HB := n5_; have BK542 := n6_; have GW542 := n7_; have GE542 := n8_; have NB489_542 := n9_; have NB542_489 := n10_; clear n0_ n1_ n2_ n3_ n4_ n5_ n6_ n7_ n8_ n9_ n10_; clear hb hbox hg; have hnb74 := NB542_489.out; have hnc74 := NB489_542.out; obtain ⟨hcz75_0, hcz75_1, hcz75_2, hcz75_3, hcz75_4, hcz75_5, hfz75_0, hfz75_1, hfz75_2, hfz75_3, hfz75_4, hfz75_5⟩ := c6_ BK542.out; obtain ⟨Ao76, co76, eo76⟩ := Kd.R_slice HO530.out; subst eo76; obtain ⟨Ao77, co77, eo77⟩ := Kd.S_slice HO533.out; subst eo77; obtain ⟨Ao78, co78, eo78⟩ := Kd.S_slice HO536.out; subst eo78; obtain ⟨Ao79, co79, eo79⟩ := Kd.R_slice HO540.out; subst eo79) | ((with_reducible refine gate_callee (f := 12) rfl ?_); refine goesL_ (some 72) rfl rfl Try.func12 (by kernel_rfl) rfl #[.agg #[.string t527, .slice Ao76 t528.length co76, .slice Ao77 t531.length co77, .slice Ao78 t534.length co78, .bool t537, .slice Ao79 t538.length co79], .agg #[.string (⟨#[]⟩ : ByteArray), .slice none 0 0, .slice none 0 0, .slice none 0 0, .bool false, .slice none 0 0]] rfl (by (try simp only [List.map_toArray, List.map_cons, List.map_nil]); first | done | rfl | (simp only [List.length_drop, List.length_take]; rfl)) ?_; (refine (sr25Same.calls kj15 t527 _ _ t528 _ _ t531 _ _ t534 t537 _ _ t538 (⟨#[]⟩ : ByteArray) _ _ ([] : List (S49)) _ _ ([] : List (S38)) _ _ ([] : List (S38)) false _ _ ([] : List (S88)) true _ ?side1 ?side2 ?side3 ?side4 ?side5 ?side6 ?side7 ?side8 ?side9 ?side10 ?side11 ?side12 ?side13 ?side14 ?side15 ?side16 A69.out).mono ?_); (case side1 => refine (Kd.R_reads' (e := 49) (base := w.heap.size) (ok := fun k_ => True) (n := t528.length) (c := co76) ?_).2.2; exact (by (with_reducible repeat (first | apply Kd.R_alloc | apply Kd.R_drewN | apply Kd.R_drew)); exact (Kd.R_mono (Kd.R_far (p := ⟨gb542, 5, none⟩) (Kd.R_far (p := ⟨gb542, 4, none⟩) (Kd.R_far (p := ⟨gb542, 3, none⟩) (Kd.R_far (p := ⟨gb542, 2, none⟩) (Kd.R_far (p := ⟨gb542, 1, none⟩) (Kd.R_far (p := ⟨gb542, 0, none⟩) (Kd.R_types HO530.out BK542.out (by decide)) (fun _ hk => hk.2) (.string t527)) (fun _ hk => hk.2) (.slice Ao76 t528.length co76)) (fun _ hk => hk.2) (.slice Ao77 t531.length co77)) (fun _ hk => hk.2) (.slice Ao78 t534.length co78)) (fun _ hk => hk.2) (.bool t537)) (fun _ hk => hk.2) (.slice Ao79 t538.length co79)) (fun _ h_ => h_.1)))); (case side2 => exact (Kd.R_reads' HO530.out).2.1); (case side3 => refine (Kd.S_reads' (e := 38) (base := w.heap.size) (ok := fun k_ => (some k_ ≠ (.slice Ao78 t534.length co78 : Value).ownBlock ∧ some k_ ≠ (.slice Ao79 t538.length co79 : Value).ownBlock)) (n := t531.length) (c := co77) ?_).2.2; exact (by (with_reducible repeat (first | apply Kd.S_alloc | apply Kd.S_drewN | apply Kd.S_drew)); exact (Kd.S_mono (Kd.S_far (p := ⟨gb542, 5, none⟩) (Kd.S_far (p := ⟨gb542, 4, none⟩) (Kd.S_far (p := ⟨gb542, 3, none⟩) (Kd.S_far (p := ⟨gb542, 2, none⟩) (Kd.S_far (p := ⟨gb542, 1, none⟩) (Kd.S_far (p := ⟨gb542, 0, none⟩) (Kd.S_types HO533.out BK542.out (by decide)) (fun _ hk => hk.2) (.string t527)) (fun _ hk => hk.2) (.slice Ao76 t528.length co76)) (fun _ hk => hk.2) (.slice Ao77 t531.length co77)) (fun _ hk => hk.2) (.slice Ao78 t534.length co78)) (fun _ hk => hk.2) (.bool t537)) (fun _ hk => hk.2) (.slice Ao79 t538.length co79)) (fun _ h_ => h_.1)))); (case side4 => exact (Kd.S_reads' HO533.out).2.1); (case side5 => refine (Kd.S_reads' (e := 38) (base := w.heap.size) (ok := fun k_ => (some k_ ≠ (.slice Ao77 t531.length co77 : Value).ownBlock ∧ some k_ ≠ (.slice Ao79 t538.length co79 : Value).ownBlock)) (n := t534.length) (c := co78) ?_).2.2; exact (by (with_reducible repeat (first | apply Kd.S_alloc | apply Kd.S_drewN | apply Kd.S_drew)); exact (Kd.S_mono (Kd.S_far (p := ⟨gb542, 5, none⟩) (Kd.S_far (p := ⟨gb542, 4, none⟩) (Kd.S_far (p := ⟨gb542, 3, none⟩) (Kd.S_far (p := ⟨gb542, 2, none⟩) (Kd.S_far (p := ⟨gb542, 1, none⟩) (Kd.S_far (p := ⟨gb542, 0, none⟩) (Kd.S_types HO536.out BK542.out (by decide)) (fun _ hk => hk.2) (.string t527)) (fun _ hk => hk.2) (.slice Ao76 t528.length co76)) (fun _ hk => hk.2) (.slice Ao77 t531.length co77)) (fun _ hk => hk.2) (.slice Ao78 t534.length co78)) (fun _ hk => hk.2) (.bool t537)) (fun _ hk => hk.2) (.slice Ao79 t538.length co79)) (fun _ h_ => h_.1)))); (case side6 => exact (Kd.S_reads' HO536.out).2.1); (case side7 => refine (Kd.R_reads' (e := 88) (base := w.heap.size) (ok := fun k_ => True) (n := t538.length) (c := co79) ?_).2.2; exact (by (with_reducible repeat (first | apply Kd.R_alloc | apply Kd.R_drewN | apply Kd.R_drew)); exact (Kd.R_mono (Kd.R_far (p := ⟨gb542, 5, none⟩) (Kd.R_far (p := ⟨gb542, 4, none⟩) (Kd.R_far (p := ⟨gb542, 3, none⟩) (Kd.R_far (p := ⟨gb542, 2, none⟩) (Kd.R_far (p := ⟨gb542, 1, none⟩) (Kd.R_far (p := ⟨gb542, 0, none⟩) (Kd.R_types HO540.out BK542.out (by decide)) (fun _ hk => hk.2) (.string t527)) (fun _ hk => hk.2) (.slice Ao76 t528.length co76)) (fun _ hk => hk.2) (.slice Ao77 t531.length co77)) (fun _ hk => hk.2) (.slice Ao78 t534.length co78)) (fun _ hk => hk.2) (.bool t537)) (fun _ hk => hk.2) (.slice Ao79 t538.length co79)) (fun _ h_ => h_.1)))); (case side8 => exact (Kd.R_reads' HO540.out).2.1); (case side9 => exact Kd.C_nil _ _); (case side10 => exact Nat.le_refl _); (case side11 => exact Kd.C_nil _ _); (case side12 => exact Nat.le_refl _); (case side13 => exact Kd.C_nil _ _); (case side14 => exact Nat.le_refl _); (case side15 => exact Kd.C_nil _ _); (case side16 => exact Nat.le_refl _); rintro e w80 ⟨rfl, hb⟩; refine ⟨_, rfl, ?_⟩; replace HO530 := aS_ (Kd.R_below (by (with_reducible repeat (first | apply Kd.R_alloc | apply Kd.R_drewN | apply Kd.R_drew)); exact (Kd.R_mono (Kd.R_far (p := ⟨gb542, 5, none⟩) (Kd.R_far (p := ⟨gb542, 4, none⟩) (Kd.R_far (p := ⟨gb542, 3, none⟩) (Kd.R_far (p := ⟨gb542, 2, none⟩) (Kd.R_far (p := ⟨gb542, 1, none⟩) (Kd.R_far (p := ⟨gb542, 0, none⟩) (Kd.R_types HO530.out BK542.out (by decide)) (fun _ hk => hk.2) (.string t527)) (fun _ hk => hk.2) (.slice Ao76 t528.length co76)) (fun _ hk => hk.2) (.slice Ao77 t531.length co77)) (fun _ hk => hk.2) (.slice Ao78 t534.length co78)) (fun _ hk => hk.2) (.bool t537)) (fun _ hk => hk.2) (.slice Ao79 t538.length co79)) (fun _ h_ => h_.1))) hb); replace HO533 := aS_ (Kd.S_below (by (with_reducible repeat (first | apply Kd.S_alloc | apply Kd.S_drewN | apply Kd.S_drew)); exact (Kd.S_mono (Kd.S_far (p := ⟨gb542, 5, none⟩) (Kd.S_far (p := ⟨gb542, 4, none⟩) (Kd.S_far (p := ⟨gb542, 3, none⟩) (Kd.S_far (p := ⟨gb542, 2, none⟩) (Kd.S_far (p := ⟨gb542, 1, none⟩) (Kd.S_far (p := ⟨gb542, 0, none⟩) (Kd.S_types HO533.out BK542.out (by decide)) (fun _ hk => hk.2) (.string t527)) (fun _ hk => hk.2) (.slice Ao76 t528.length co76)) (fun _ hk => hk.2) (.slice Ao77 t531.length co77)) (fun _ hk => hk.2) (.slice Ao78 t534.length co78)) (fun _ hk => hk.2) (.bool t537)) (fun _ hk => hk.2) (.slice Ao79 t538.length co79)) (fun _ h_ => h_.1))) hb); replace HO536 := aS_ (Kd.S_below (by (with_reducible repeat (first | apply Kd.S_alloc | apply Kd.S_drewN | apply Kd.S_drew)); exact (Kd.S_mono (Kd.S_far (p := ⟨gb542, 5, none⟩) (Kd.S_far (p := ⟨gb542, 4, none⟩) (Kd.S_far (p := ⟨gb542, 3, none⟩) (Kd.S_far (p := ⟨gb542, 2, none⟩) (Kd.S_far (p := ⟨gb542, 1, none⟩) (Kd.S_far (p := ⟨gb542, 0, none⟩) (Kd.S_types HO536.out BK542.out (by decide)) (fun _ hk => hk.2) (.string t527)) (fun _ hk => hk.2) (.slice Ao76 t528.length co76)) (fun _ hk => hk.2) (.slice Ao77 t531.length co77)) (fun _ hk => hk.2) (.slice Ao78 t534.length co78)) (fun _ hk => hk.2) (.bool t537)) (fun _ hk => hk.2) (.slice Ao79 t538.length co79)) (fun _ h_ => h_.1))) hb); replace HO540 := aS_ (Kd.R_below (by (with_reducible repeat (first | apply Kd.R_alloc | apply Kd.R_drewN | apply Kd.R_drew)); exact (Kd.R_mono (Kd.R_far (p := ⟨gb542, 5, none⟩) (Kd.R_far (p := ⟨gb542, 4, none⟩) (Kd.R_far (p := ⟨gb542, 3, none⟩) (Kd.R_far (p := ⟨gb542, 2, none⟩) (Kd.R_far (p := ⟨gb542, 1, none⟩) (Kd.R_far (p := ⟨gb542, 0, none⟩) (Kd.R_types HO540.out BK542.out (by decide)) (fun _ hk => hk.2) (.string t527)) (fun _ hk => hk.2) (.slice Ao76 t528.length co76)) (fun _ hk => hk.2) (.slice Ao77 t531.length co77)) (fun _ hk => hk.2) (.slice Ao78 t534.length co78)) (fun _ hk => hk.2) (.bool t537)) (fun _ hk => hk.2) (.slice Ao79 t538.length co79)) (fun _ h_ => h_.1))) hb); replace BK489 := aS_ (blk_below (g := gb489) (o := .cells #[.string a0_0, .slice A0_1 l0_1.length c0_1, .slice A0_2 l0_2.length c0_2, .slice A0_3 l0_3.length c0_3, .bool a0_4, .slice A0_5 l0_5.length c0_5] 26 (0, 0)) (by (with_reducible repeat (first | refine bN ?_ _ | refine bD ?_ | refine bA ?_ _)); refine blk_far ?_ NB489_542.out _; (with_reducible repeat (first | refine bN ?_ _ | refine bD ?_ | refine bA ?_ _)); refine blk_far ?_ NB489_542.out _; (with_reducible repeat (first | refine bN ?_ _ | refine bD ?_ | refine bA ?_ _)); refine blk_far ?_ NB489_542.out _; (with_reducible repeat (first | refine bN ?_ _ | refine bD ?_ | refine bA ?_ _)); refine blk_far ?_ NB489_542.out _; (with_reducible repeat (first | refine bN ?_ _ | refine bD ?_ | refine bA ?_ _)); refine blk_far ?_ NB489_542.out _; (with_reducible repeat (first | refine bN ?_ _ | refine bD ?_ | refine bA ?_ _)); refine blk_far ?_ NB489_542.out _; (with_reducible repeat (first | refine bN ?_ _ | refine bD ?_ | refine bA ?_ _)); exact BK489.out) hb); replace BK542 := aS_ (blk_below (g := gb542) (o := .cells #[.string t527, .slice Ao76 t528.length co76, .slice Ao77 t531.length co77, .slice Ao78 t534.length co78, .bool t537, .slice Ao79 t538.length co79] 26 (0, 0)) (by (with_reducible repeat (first | refine bN ?_ _ | refine bD ?_ | refine bA ?_ _)); refine blk_put (cs := #[.string t527, .slice Ao76 t528.length co76, .slice Ao77 t531.length co77, .slice Ao78 t534.length co78, .bool t537, .slice none 0 0]) ?_ 5 _ rfl; (with_reducible repeat (first | refine bN ?_ _ | refine bD ?_ | refine bA ?_ _)); refine blk_put (cs := #[.string t527, .slice Ao76 t528.length co76, .slice Ao77 t531.length co77, .slice Ao78 t534.length co78, .bool false, .slice none 0 0]) ?_ 4 _ rfl; (with_reducible repeat (first | refine bN ?_ _ | refine bD ?_ | refine bA ?_ _)); refine blk_put (cs := #[.string t527, .slice Ao76 t528.length co76, .slice Ao77 t531.length co77, .slice none 0 0, .bool false, .slice none 0 0]) ?_ 3 _ rfl; (with_reducible repeat (first | refine bN ?_ _ | refine bD ?_ | refine bA ?_ _)); refine blk_put (cs := #[.string t527, .slice Ao76 t528.length co76, .slice none 0 0, .slice none 0 0, .bool false, .slice none 0 0]) ?_ 2 _ rfl; (with_reducible repeat (first | refine bN ?_ _ | refine bD ?_ | refine bA ?_ _)); refine blk_put (cs := #[.string t527, .slice none 0 0, .slice none 0 0, .slice none 0 0, .bool false, .slice none 0 0]) ?_ 1 _ rfl; (with_reducible repeat (first | refine bN ?_ _ | refine bD ?_ | refine bA ?_ _)); refine blk_put (cs := #[.string (⟨#[]⟩ : ByteArray), .slice none 0 0, .slice none 0 0, .slice none 0 0, .bool false, .slice none 0 0]) ?_ 0 _ rfl; (with_reducible repeat (first | refine bN ?_ _ | refine bD ?_ | refine bA ?_ _)); exact BK542.out) hb); replace HB := aS_ (below_step (by repeat (first | (with_reducible first | exact HB.out | apply wA | apply wN | apply w1_ | refine wS ?_ GE489.out | refine wS ?_ GE542.out) | exact HB.out)) hb); (try clear hb); (try clear hb2); (try clear hk); (try clear hi)) | (go_at_call 7; (with_reducible refine (sl28lives.calls kj15  t547 _ A71.out).mono ?_); rintro e w81 ⟨rfl, hb⟩; replace HO530 := aS_ (Kd.R_below (by (with_reducible repeat (first | apply Kd.R_alloc | apply Kd.R_drewN | apply Kd.R_drew)); exact HO530.out) hb); replace HO533 := aS_ (Kd.S_below (by (with_reducible repeat (first | apply Kd.S_alloc | apply Kd.S_drewN | apply Kd.S_drew)); exact HO533.out) hb); replace HO536 := aS_ (Kd.S_below (by (with_reducible repeat (first | apply Kd.S_alloc | apply Kd.S_drewN | apply Kd.S_drew)); exact HO536.out) hb); replace HO540 := aS_ (Kd.R_below (by (with_reducible repeat (first | apply Kd.R_alloc | apply Kd.R_drewN | apply Kd.R_drew)); exact HO540.out) hb); replace BK489 := aS_ (blk_below (by (with_reducible repeat (first | refine bN ?_ _ | refine bD ?_ | refine bA ?_ _)); exact BK489.out) hb); replace BK542 := aS_ (blk_below (by (with_reducible repeat (first | refine bN ?_ _ | refine bD ?_ | refine bA ?_ _)); exact BK542.out) hb); replace HB := aS_ (below_step (by repeat (first | (with_reducible first | exact HB.out | apply wA | apply wN | apply w1_ | refine wS ?_ GE489.out | refine wS ?_ GE542.out) | exact HB.out)) hb); (try clear hb); (try clear hb2); (try clear hk); (try clear hi)))
        go_ret
        exact ⟨by first | rfl | (simp [errW_none, errW_some] <;> rfl) | (simp [*, errW_none, errW_some] <;> rfl), by repeat (first | (with_reducible first | exact HB.out | apply wA | apply wN | apply w1_ | refine wS ?_ GE489.out | refine wS ?_ GE542.out) | exact HB.out)⟩
       ·replace c70 := Bool.eq_false_iff.mpr c70
        subst c70
        have H1 : (none) = some r := by rw [if_neg (show ¬ (false = true) by decide)] at H; exact H
        clear H
        have H := H1
        clear H1
        exact absurd H (by simp)
/-- THE ONE PURE STATEMENT of sl28PackBack. -/
def sl28PackBack.Pure : Prop := ∀ (x0 : S26) (x1 : ByteArray) (x2 : Int), B26 x0 → x1.size ≤ 140737488351232 → (Lit.int .i64 x2).wf = true → ∃ k, sl28PackBack.f k x0.f0 x0.f1 x0.f2 x0.f3 x0.f4 x0.f5 x1 x2 = some true
end Go.Proofs.Ytnndanfghlnpfaa.P
