import Derived.Test.YtnndanfghlnpfaaPx0
import Derived.Test.YtnndanfghlnpfaaPx13
import Derived.Test.YtnndanfghlnpfaaPx14
import Derived.Test.YtnndanfghlnpfaaPx15
import Derived.Test.YtnndanfghlnpfaaPx16
import Derived.Test.YtnndanfghlnpfaaPx17
namespace Go.Proofs.Ytnndanfghlnpfaa.P
open Go.RowKit Go.Proofs.YtnndanfghlnpfaaW.PrintWords Go.Proofs.YtnndanfghlnpfaaW.PrintLast Go.Proofs.YtnndanfghlnpfaaW.PrintMore
attribute [local go_sem] max2_int min2_int max_two min_two max_three min_three max_four min_four   -- for this text's walks alone
set_option linter.unusedVariables false
set_option linter.unusedSimpArgs false
/-! ### sr25Right: function 21 -/
mutual
def sr25Right.j0 : Nat → Bool → ByteArray → List (S49) → List (S38) → List (S38) → Bool → List (S88) → Option (Bool)
 | 0, _, _, _, _, _, _, _ => none
 | k + 1, x22, x286000, x286001, x286002, x286003, x286004, x286005 => if x22 = true then (some false) else (if (x286002.length : Int) > 16 then (sr25Right.j1 k true x286000 x286001 x286002 x286003 x286004 x286005) else (if (x286003.length : Int) > 16 then (sr25Right.j1 k true x286000 x286001 x286002 x286003 x286004 x286005) else (if (x286005.length : Int) > 32 then (sr25Right.j1 k true x286000 x286001 x286002 x286003 x286004 x286005) else ((sr25small.f k x286002).bind fun t288 => (if t288 = true then ((sr25small.f k x286003).bind fun t289 => (if t289 = true then ((sr25small.f k (([(⟨x286005⟩ : S38)] : List (S38)))).bind fun t293 => (sr25Right.j1 k (!t293) x286000 x286001 x286002 x286003 x286004 x286005)) else (sr25Right.j1 k true x286000 x286001 x286002 x286003 x286004 x286005))) else (sr25Right.j1 k true x286000 x286001 x286002 x286003 x286004 x286005))))))
def sr25Right.j1 : Nat → Bool → ByteArray → List (S49) → List (S38) → List (S38) → Bool → List (S88) → Option (Bool)
 | 0, _, _, _, _, _, _, _ => none
 | k + 1, x58, x286000, x286001, x286002, x286003, x286004, x286005 => if x58 = true then (some false) else (if (x286005.length : Int) > 0 then ((sr23Inverse.f k x286005).bind fun t294 => (if x286004 = true then (if (x286003.length : Int) > 0 then (sr25Right.j2 k true x286000 x286001 x286002 x286003 x286004 x286005 t294) else ((sr23Right.f k x286000 t294).bind fun t298 => (sr25Right.j2 k (!t298) x286000 x286001 x286002 x286003 x286004 x286005 t294))) else (sr25Right.j2 k true x286000 x286001 x286002 x286003 x286004 x286005 t294))) else ((sr24Undoes.f k x286000 x286002).bind fun t303 => (if t303 = true then ((sr24Redoes.f k x286000 x286003).bind fun t304 => (some t304)) else (some false))))
def sr25Right.j2 : Nat → Bool → ByteArray → List (S49) → List (S38) → List (S38) → Bool → List (S88) → List (S88) → Option (Bool)
 | 0, _, _, _, _, _, _, _, _ => none
 | k + 1, x84, x286000, x286001, x286002, x286003, x286004, x286005, x298000 => if x84 = true then (some false) else ((sr23Run.f k x286000 x298000).bind fun bt299 => ((sr24Undoes.f k bt299.1 x286002).bind fun t301 => (if t301 = true then ((sr24Redoes.f k x286000 x286003).bind fun t302 => (some t302)) else (some false))))
end
def sr25Right.f (k : Nat) (a0_0 : ByteArray) (l0_1 : List (S49)) (l0_2 : List (S38)) (l0_3 : List (S38)) (a0_4 : Bool) (l0_5 : List (S88)) : Option (Bool) := (sr01Valid.f k a0_0).bind fun t286 => (if t286 = true then (if (a0_0.size : Int) > 4096 then (sr25Right.j0 k true a0_0 l0_1 l0_2 l0_3 a0_4 l0_5) else ((sr22Right.f k l0_1 a0_0).bind fun t287 => (sr25Right.j0 k (!t287) a0_0 l0_1 l0_2 l0_3 a0_4 l0_5))) else (sr25Right.j0 k true a0_0 l0_1 l0_2 l0_3 a0_4 l0_5))
set_option maxHeartbeats 8000000 in
set_option maxRecDepth 100000 in
theorem sr25Right.calls (k : Nat) (a0_0 : ByteArray) (A0_1 : Option Addr) (c0_1 : Nat) (l0_1 : List (S49)) (A0_2 : Option Addr) (c0_2 : Nat) (l0_2 : List (S38)) (A0_3 : Option Addr) (c0_3 : Nat) (l0_3 : List (S38)) (a0_4 : Bool) (P0_5_ : Nat → Prop) (A0_5 : Option Addr) (c0_5 : Nat) (l0_5 : List (S88)) (r : Bool) (w : World) (hr0_1 : Kd.C k49 w A0_1 l0_1.length l0_1) (hc0_1 : l0_1.length ≤ c0_1) (hr0_2 : Kd.C k38 w A0_2 l0_2.length l0_2) (hc0_2 : l0_2.length ≤ c0_2) (hr0_3 : Kd.C k38 w A0_3 l0_3.length l0_3) (hc0_3 : l0_3.length ≤ c0_3) (hs0_5 : Kd.V k88 88 w w.heap.size (fun k_ => P0_5_ k_) (.slice A0_5 l0_5.length c0_5) l0_5) (h : sr25Right.f k a0_0 l0_1 l0_2 l0_3 a0_4 l0_5 = some r) :
  Calls Try.prog 21 #[.agg #[.string a0_0, .slice A0_1 l0_1.length c0_1, .slice A0_2 l0_2.length c0_2, .slice A0_3 l0_3.length c0_3, .bool a0_4, .slice A0_5 l0_5.length c0_5]] w fun e w' => e = .returned (.bool r) ∧ Below w.heap.size w w' := by
 have hu26 := Try.underlying26
 have hu38 := Try.underlying38
 have HR0_1 := aS_ hr0_1
 have HC0_1 := aS_ hc0_1
 clear hr0_1 hc0_1
 have HR0_2 := aS_ hr0_2
 have HC0_2 := aS_ hc0_2
 clear hr0_2 hc0_2
 have HR0_3 := aS_ hr0_3
 have HC0_3 := aS_ hc0_3
 clear hr0_3 hc0_3
 have HO0_5 := aS_ (show Kd.V k88 88 w w.heap.size (fun k_ => (P0_5_ k_ ∨ w.heap.size ≤ k_)) (.slice A0_5 l0_5.length c0_5) l0_5 from Kd.V_mono hs0_5 (fun k_ hk => .inl hk))
 have HB := aS_ (Below.refl w.heap.size w)
 have H : ((sr01Valid.f k a0_0).bind fun t286 => (if t286 = true then (if (a0_0.size : Int) > 4096 then (sr25Right.j0 k true a0_0 l0_1 l0_2 l0_3 a0_4 l0_5) else ((sr22Right.f k l0_1 a0_0).bind fun t287 => (sr25Right.j0 k (!t287) a0_0 l0_1 l0_2 l0_3 a0_4 l0_5))) else (sr25Right.j0 k true a0_0 l0_1 l0_2 l0_3 a0_4 l0_5))) = some r := h
 clear h
 have HC2 := aS_ H
 clear H
 go_enter Try.func21, Try.ntmps21
 go_upto_region 1 with (first | ((with_reducible refine gate_dst (N := 1) rfl ?_); (try (refine gate_guard (by rfl) ?_; dsimp only)); refine bx_ 1 #[.string a0_0, .slice A0_1 l0_1.length c0_1, .slice A0_2 l0_2.length c0_2, .slice A0_3 l0_3.length c0_3, .bool a0_4, .slice A0_5 l0_5.length c0_5] 26 ?_; intro gb285 hg w3 hbox hb; replace HO0_5 := aS_ (Kd.V_below (Kd.V_elderB (vk HO0_5.out) gb285 (Nat.le_of_eq hg.symm)) hb); have BK285 := aS_ (hbox); have GW285 := ge_ hg (wk HB.out); have GE285 := ge_ hg (wk HB.out); replace HB := bw_ HB hb; clear hb hbox hg))
 (try simp only [Act.put, List.setIfInBounds_toArray, List.set_cons_zero, List.set_cons_succ])
 go_cut [22] (fun v22 wc => ∃ (kq : Nat) (x22_1 : Bool), v22 = .bool x22_1 ∧ Aside0 (sr25Right.j0 kq x22_1 a0_0 l0_1 l0_2 l0_3 a0_4 l0_5 = some r) ∧ Aside0 (kq ≤ k) ∧ Aside0 (Kd.V k88 88 wc w.heap.size (fun k_ => (P0_5_ k_ ∨ w.heap.size ≤ k_) ∧ k_ ≠ gb285) (.slice A0_5 l0_5.length c0_5) l0_5) ∧ Aside0 (wc.heap[gb285]? = some (.cells #[.string a0_0, (.slice A0_1 l0_1.length c0_1), (.slice A0_2 l0_2.length c0_2), (.slice A0_3 l0_3.length c0_3), .bool a0_4, (.slice A0_5 l0_5.length c0_5)] 26 (0, 0))) ∧ Aside0 (Below w.heap.size w wc))
 case first =>
  have H := HC2.out
  clear HC2
  replace H := Option.bind_eq_some_iff.mp H
  obtain ⟨t286, A40, H⟩ := H
  try dsimp only at H
  have A4 := aS_ A40
  clear A40
  by_cases c5 : t286 = true
  ·subst c5
   rw [if_pos rfl] at H
   by_cases c6 : (a0_0.size : Int) > 4096
   ·rw [if_pos c6] at H
    have c6b0 := decide_eq_true c6
    have c6b1 : decide (4096 < a0_0.size) = true := decide_eq_true (by omega)
    clear c6
    (first | rw [c6b0] | (simp only [i64_w, i32_w]; rw [c6b0]) | skip)
    have H' := aS_ H
    clear H
    obtain ⟨hcz7_0, hcz7_1, hcz7_2, hcz7_3, hcz7_4, hcz7_5, hfz7_0, hfz7_1, hfz7_2, hfz7_3, hfz7_4, hfz7_5⟩ := c6_ BK285.out
    go_wp2_with (first | (refine cl_ (some 7) Try.func48 #[.string a0_0] ?_; (with_reducible refine (sr01Valid.calls k a0_0 true _ A4.out).mono ?_); rintro e w8 ⟨rfl, hb⟩; refine ⟨_, rfl, ?_⟩; replace HO0_5 := aS_ (Kd.V_below (vk HO0_5.out) hb); replace BK285 := bb_ BK285 hb; replace HB := bw_ HB hb; try clear hb; obtain ⟨hcz9_0, hcz9_1, hcz9_2, hcz9_3, hcz9_4, hcz9_5, hfz9_0, hfz9_1, hfz9_2, hfz9_3, hfz9_4, hfz9_5⟩ := c6_ BK285.out))
    go_meet
    case rel => exact ⟨_, (true), t0, H', ⟨t3⟩, ⟨vk HO0_5.out⟩, ⟨bq BK285.out⟩, ⟨wk HB.out⟩⟩
   ·rw [if_neg c6] at H
    have c6b0 := decide_eq_false c6
    have c6b1 : decide (4096 < a0_0.size) = false := decide_eq_false (by omega)
    clear c6
    (first | rw [c6b0] | (simp only [i64_w, i32_w]; rw [c6b0]) | skip)
    replace H := Option.bind_eq_some_iff.mp H
    obtain ⟨t287, A100, H⟩ := H
    try dsimp only at H
    have A10 := aS_ A100
    clear A100
    have H' := aS_ H
    clear H
    obtain ⟨hcz11_0, hcz11_1, hcz11_2, hcz11_3, hcz11_4, hcz11_5, hfz11_0, hfz11_1, hfz11_2, hfz11_3, hfz11_4, hfz11_5⟩ := c6_ BK285.out
    go_wp2_with (first | (refine cl_ (some 7) Try.func48 #[.string a0_0] ?_; (with_reducible refine (sr01Valid.calls k a0_0 true _ A4.out).mono ?_); rintro e w12 ⟨rfl, hb⟩; refine ⟨_, rfl, ?_⟩; replace HO0_5 := aS_ (Kd.V_below (vk HO0_5.out) hb); replace BK285 := bb_ BK285 hb; replace HB := bw_ HB hb; try clear hb; obtain ⟨hcz13_0, hcz13_1, hcz13_2, hcz13_3, hcz13_4, hcz13_5, hfz13_0, hfz13_1, hfz13_2, hfz13_3, hfz13_4, hfz13_5⟩ := c6_ BK285.out) | (go_at_call 49; (with_reducible refine (sr22Right.calls k _ _ l0_1 a0_0 t287 _ ?side1 ?side2 A10.out).mono ?_); (case side1 => repeat (first | exact (Kd.C_below HR0_1.out HB.out) | (with_reducible refine Kd.C_alloc ?_ _) | (with_reducible refine Kd.C_drewN ?_ _) | (with_reducible refine Kd.C_drew ?_))); (case side2 => exact HC0_1.out); rintro e w' ⟨rfl, ⟨nd, rfl⟩⟩))
    go_meet
    case rel => exact ⟨_, (!t287), t0, H', ⟨t3⟩, ⟨vk HO0_5.out⟩, ⟨bq BK285.out⟩, ⟨wk HB.out⟩⟩
  ·replace c5 := Bool.eq_false_iff.mpr c5
   subst c5
   rw [if_neg Bool.false_ne_true] at H
   have H' := aS_ H
   clear H
   obtain ⟨hcz14_0, hcz14_1, hcz14_2, hcz14_3, hcz14_4, hcz14_5, hfz14_0, hfz14_1, hfz14_2, hfz14_3, hfz14_4, hfz14_5⟩ := c6_ BK285.out
   go_wp2_with (first | (refine cl_ (some 7) Try.func48 #[.string a0_0] ?_; (with_reducible refine (sr01Valid.calls k a0_0 false _ A4.out).mono ?_); rintro e w15 ⟨rfl, hb⟩; refine ⟨_, rfl, ?_⟩; replace HO0_5 := aS_ (Kd.V_below (vk HO0_5.out) hb); replace BK285 := bb_ BK285 hb; replace HB := bw_ HB hb; try clear hb))
   go_meet
   case rel => exact ⟨_, (true), t0, H', ⟨t3⟩, ⟨vk HO0_5.out⟩, ⟨bq BK285.out⟩, ⟨wk HB.out⟩⟩
 case rest =>
  clear HC2
  try clear c2
  try clear p2
  try clear c4
  try clear c5
  try clear c6
  try clear c6b0
  try clear c6b1
  try clear hcz11_0 hcz11_1 hcz11_2 hcz11_3 hcz11_4 hcz11_5 hcz13_0 hcz13_1 hcz13_2 hcz13_3 hcz13_4 hcz13_5 hcz14_0 hcz14_1 hcz14_2 hcz14_3 hcz14_4 hcz14_5 hcz7_0 hcz7_1 hcz7_2 hcz7_3 hcz7_4 hcz7_5 hcz9_0 hcz9_1 hcz9_2 hcz9_3 hcz9_4 hcz9_5 hfz11_0 hfz11_1 hfz11_2 hfz11_3 hfz11_4 hfz11_5 hfz13_0 hfz13_1 hfz13_2 hfz13_3 hfz13_4 hfz13_5 hfz14_0 hfz14_1 hfz14_2 hfz14_3 hfz14_4 hfz14_5 hfz7_0 hfz7_1 hfz7_2 hfz7_3 hfz7_4 hfz7_5 hfz9_0 hfz9_1 hfz9_2 hfz9_3 hfz9_4 hfz9_5
  obtain ⟨kq, x22_1, rfl, HA, HJ1, HO_286005, BK285, HB⟩ := hcut
  cases kq with
  | zero => exact absurd HA.out (by simp [sr25Right.j0])
  | succ kj1 =>
   have H := HA.out
   clear HA
   simp only [sr25Right.j0] at H
   by_cases c16 : x22_1 = true
   ·subst c16
    rw [if_pos rfl] at H
    obtain rfl := Option.some.inj H
    go_wp2
    go_ret
    exact ⟨t1, wk HB.out⟩
   ·replace c16 := Bool.eq_false_iff.mpr c16
    subst c16
    rw [if_neg Bool.false_ne_true] at H
    have HC17 := aS_ H
    clear H
    go_upto_region 3 with (fail)
    go_cut [58] (fun v58 wc => ∃ (kq : Nat) (x58_16 : Bool), v58 = .bool x58_16 ∧ Aside0 (sr25Right.j1 kq x58_16 a0_0 l0_1 l0_2 l0_3 a0_4 l0_5 = some r) ∧ Aside0 (kq ≤ kj1) ∧ Aside0 (Kd.V k88 88 wc w.heap.size (fun k_ => (P0_5_ k_ ∨ w.heap.size ≤ k_) ∧ k_ ≠ gb285) (.slice A0_5 l0_5.length c0_5) l0_5) ∧ Aside0 (wc.heap[gb285]? = some (.cells #[.string a0_0, (.slice A0_1 l0_1.length c0_1), (.slice A0_2 l0_2.length c0_2), (.slice A0_3 l0_3.length c0_3), .bool a0_4, (.slice A0_5 l0_5.length c0_5)] 26 (0, 0))) ∧ Aside0 (Below w.heap.size w wc))
    case first =>
     have H := HC17.out
     clear HC17
     by_cases c18 : (l0_2.length : Int) > 16
     ·rw [if_pos c18] at H
      have c18b0 := decide_eq_true c18
      have c18b1 : decide (16 < l0_2.length) = true := decide_eq_true (by omega)
      clear c18
      (first | rw [c18b0] | (simp only [i64_w, i32_w]; rw [c18b0]) | skip)
      have H' := aS_ H
      clear H
      obtain ⟨hcz19_0, hcz19_1, hcz19_2, hcz19_3, hcz19_4, hcz19_5, hfz19_0, hfz19_1, hfz19_2, hfz19_3, hfz19_4, hfz19_5⟩ := c6_ BK285.out
      go_wp2
      go_meet
      case rel => exact ⟨_, (true), t0, H', ⟨by have := HJ1.out; first | omega | exact Nat.le_refl _⟩, ⟨vk HO_286005.out⟩, ⟨bq BK285.out⟩, ⟨wk HB.out⟩⟩
     ·rw [if_neg c18] at H
      have c18b0 := decide_eq_false c18
      have c18b1 : decide (16 < l0_2.length) = false := decide_eq_false (by omega)
      clear c18
      (first | rw [c18b0] | (simp only [i64_w, i32_w]; rw [c18b0]) | skip)
      by_cases c20 : (l0_3.length : Int) > 16
      ·rw [if_pos c20] at H
       have c20b0 := decide_eq_true c20
       have c20b1 : decide (16 < l0_3.length) = true := decide_eq_true (by omega)
       clear c20
       have H' := aS_ H
       clear H
       obtain ⟨hcz21_0, hcz21_1, hcz21_2, hcz21_3, hcz21_4, hcz21_5, hfz21_0, hfz21_1, hfz21_2, hfz21_3, hfz21_4, hfz21_5⟩ := c6_ BK285.out
       go_wp2
       go_meet
       case rel => exact ⟨_, (true), t0, H', ⟨by have := HJ1.out; first | omega | exact Nat.le_refl _⟩, ⟨vk HO_286005.out⟩, ⟨bq BK285.out⟩, ⟨wk HB.out⟩⟩
      ·rw [if_neg c20] at H
       have c20b0 := decide_eq_false c20
       have c20b1 : decide (16 < l0_3.length) = false := decide_eq_false (by omega)
       clear c20
       by_cases c22 : (l0_5.length : Int) > 32
       ·rw [if_pos c22] at H
        have c22b0 := decide_eq_true c22
        have c22b1 : decide (32 < l0_5.length) = true := decide_eq_true (by omega)
        clear c22
        have H' := aS_ H
        clear H
        obtain ⟨hcz23_0, hcz23_1, hcz23_2, hcz23_3, hcz23_4, hcz23_5, hfz23_0, hfz23_1, hfz23_2, hfz23_3, hfz23_4, hfz23_5⟩ := c6_ BK285.out
        go_wp2
        go_meet
        case rel => exact ⟨_, (true), t0, H', ⟨by have := HJ1.out; first | omega | exact Nat.le_refl _⟩, ⟨vk HO_286005.out⟩, ⟨bq BK285.out⟩, ⟨wk HB.out⟩⟩
       ·rw [if_neg c22] at H
        have c22b0 := decide_eq_false c22
        have c22b1 : decide (32 < l0_5.length) = false := decide_eq_false (by omega)
        clear c22
        replace H := Option.bind_eq_some_iff.mp H
        obtain ⟨t288, A240, H⟩ := H
        try dsimp only at H
        have A24 := aS_ A240
        clear A240
        by_cases c25 : t288 = true
        ·subst c25
         rw [if_pos rfl] at H
         replace H := Option.bind_eq_some_iff.mp H
         obtain ⟨t289, A260, H⟩ := H
         try dsimp only at H
         have A26 := aS_ A260
         clear A260
         by_cases c27 : t289 = true
         ·subst c27
          rw [if_pos rfl] at H
          obtain ⟨y290, hy290⟩ : ∃ y_ : List (S38), y_ = (([(⟨l0_5⟩ : S38)] : List (S38))) := ⟨_, rfl⟩
          replace H : ((sr25small.f kj1 y290).bind fun t293 => (sr25Right.j1 kj1 (!t293) a0_0 l0_1 l0_2 l0_3 a0_4 l0_5)) = some r := by first | (rw [hy290]; with_reducible exact H) | (have H2_ := (Option.bind_some _ _).symm.trans H; rw [hy290]; with_reducible exact H2_) | (have H2_ := (Option.bind_some _ _).symm.trans H; with_reducible exact H2_) | with_reducible exact H | (rw [hy290]; exact H) | exact H
          have Ny290 := aS_ hy290
          clear hy290
          replace H := Option.bind_eq_some_iff.mp H
          obtain ⟨t293, A280, H⟩ := H
          try dsimp only at H
          have A28 := aS_ A280
          clear A280
          have H' := aS_ H
          clear H
          obtain ⟨hcz29_0, hcz29_1, hcz29_2, hcz29_3, hcz29_4, hcz29_5, hfz29_0, hfz29_1, hfz29_2, hfz29_3, hfz29_4, hfz29_5⟩ := c6_ BK285.out
          go_wp2_with (first | (go_at_call 50; (with_reducible refine (sr25small.calls kj1 _ _ l0_2 true _ ?side1 ?side2 A24.out).mono ?_); (case side1 => repeat (first | exact (Kd.C_below HR0_2.out HB.out) | (with_reducible refine Kd.C_alloc ?_ _) | (with_reducible refine Kd.C_drewN ?_ _) | (with_reducible refine Kd.C_drew ?_))); (case side2 => exact HC0_2.out); rintro e w30 ⟨rfl, hb⟩; replace HO_286005 := aS_ (Kd.V_below (vk HO_286005.out) hb); replace BK285 := bb_ BK285 hb; replace HB := bw_ HB hb; try clear hb; obtain ⟨hcz31_0, hcz31_1, hcz31_2, hcz31_3, hcz31_4, hcz31_5, hfz31_0, hfz31_1, hfz31_2, hfz31_3, hfz31_4, hfz31_5⟩ := c6_ BK285.out) | (go_at_call 50; (with_reducible refine (sr25small.calls kj1 _ _ l0_3 true _ ?side1 ?side2 A26.out).mono ?_); (case side1 => repeat (first | exact (Kd.C_below HR0_3.out HB.out) | (with_reducible refine Kd.C_alloc ?_ _) | (with_reducible refine Kd.C_drewN ?_ _) | (with_reducible refine Kd.C_drew ?_))); (case side2 => exact HC0_3.out); rintro e w32 ⟨rfl, hb⟩; replace HO_286005 := aS_ (Kd.V_below (vk HO_286005.out) hb); replace BK285 := bb_ BK285 hb; replace HB := bw_ HB hb; try clear hb; obtain ⟨hcz33_0, hcz33_1, hcz33_2, hcz33_3, hcz33_4, hcz33_5, hfz33_0, hfz33_1, hfz33_2, hfz33_3, hfz33_4, hfz33_5⟩ := c6_ BK285.out) | ((with_reducible refine gate_dst (N := 55) rfl ?_); (try (refine gate_guard (by rfl) ?_; dsimp only)); refine Kd.N_lit k38 _ 38 ?hg (N' := 55) ?hd (xs := ([(⟨l0_5⟩ : S38)] : List (S38))) (inner := [.slice A0_5 l0_5.length c0_5]) (ok := (fun k_ => (P0_5_ k_ ∨ w.heap.size ≤ k_) ∧ k_ ≠ gb285)) (okp := (fun k_ => (P0_5_ k_ ∨ w.heap.size ≤ k_) ∧ k_ ≠ gb285)) ?hr ?hp (fun _ hk => hk) ((show ∀ k_, w32.heap.size ≤ k_ → (fun k_ => (P0_5_ k_ ∨ w.heap.size ≤ k_) ∧ k_ ≠ gb285) k_ from fun k_ hk => ⟨(.inr (Nat.le_trans (below_size (wk HB.out)) hk)), Kd.freshB (g := gb285) (o := .cells #[.string a0_0, .slice A0_1 l0_1.length c0_1, .slice A0_2 l0_2.length c0_2, .slice A0_3 l0_3.length c0_3, .bool a0_4, .slice A0_5 l0_5.length c0_5] 26 (0, 0)) (bk BK285.out) k_ hk⟩) _ (Nat.le_refl _)) (Below.refl _ _) (Nat.le_refl _) (by simp) ?_; (case hd => rfl); (case hg => rfl); (case hr => first | (go_simp; done) | (go_simp; rfl)); (case hp => exact (Reps.one (show Kd.FK k38 _ _ (⟨l0_5⟩ : S38) [.slice A0_5 l0_5.length c0_5] from (k38_mkF _ _ (⟨l0_5⟩ : S38) (Kd.V_reads' (Kd.V_mono (ok' := (fun k_ => (P0_5_ k_ ∨ w.heap.size ≤ k_) ∧ k_ ≠ gb285)) (HO_286005.out) (fun k_ hk => ⟨hk.1, hk.2⟩))).2.1 (Kd.V_F (Kd.V_mono (ok' := (fun k_ => (P0_5_ k_ ∨ w.heap.size ≤ k_) ∧ k_ ≠ gb285)) (HO_286005.out) (fun k_ hk => ⟨hk.1, hk.2⟩))))) (Reps.none _ _))); intro v291 w34 ho35 hb hg_ hnew_; clear hg_ hnew_; (first | rw [← Ny290.out] at ho35 | (simp only [Int.reduceToNat] at ho35; rw [← Ny290.out] at ho35)); replace HO_286005 := aS_ (Kd.V_elder' (vk HO_286005.out) (Kd.N_base ho35) hb); have HO292 := aS_ (Kd.N_lower ho35 (below_size (wk HB.out))); replace BK285 := bb_ BK285 hb; replace HB := bw_ HB hb; clear hb ho35; obtain ⟨Ao36, co36, eo36⟩ := Kd.N_slice HO292.out; subst eo36) | (go_at_call 50; (with_reducible refine (sr25small.calls kj1 _ _ y290 t293 _ ?side1 ?side2 A28.out).mono ?_); (case side1 => repeat (first | exact (Kd.N_reads' HO292.out).2.2 | (with_reducible refine Kd.C_alloc ?_ _) | (with_reducible refine Kd.C_drewN ?_ _) | (with_reducible refine Kd.C_drew ?_))); (case side2 => exact (Kd.N_reads' HO292.out).2.1); rintro e w37 ⟨rfl, hb⟩; replace HO_286005 := aS_ (Kd.V_below (vk HO_286005.out) hb); replace HO292 := aS_ (Kd.N_below (nk HO292.out) hb); replace BK285 := bb_ BK285 hb; replace HB := bw_ HB hb; try clear hb))
          go_meet
          case rel => exact ⟨_, (!t293), t0, H', ⟨by have := HJ1.out; first | omega | exact Nat.le_refl _⟩, ⟨by (with_reducible repeat (first | apply Kd.V_alloc | apply Kd.V_drewN | apply Kd.V_drew)); exact Kd.V_mono HO_286005.out (fun _ hk => ⟨hk.1.1, hk.1.2⟩)⟩, ⟨bq BK285.out⟩, ⟨wk HB.out⟩⟩
         ·replace c27 := Bool.eq_false_iff.mpr c27
          subst c27
          rw [if_neg Bool.false_ne_true] at H
          have H' := aS_ H
          clear H
          obtain ⟨hcz38_0, hcz38_1, hcz38_2, hcz38_3, hcz38_4, hcz38_5, hfz38_0, hfz38_1, hfz38_2, hfz38_3, hfz38_4, hfz38_5⟩ := c6_ BK285.out
          go_wp2_with (first | (go_at_call 50; (with_reducible refine (sr25small.calls kj1 _ _ l0_2 true _ ?side1 ?side2 A24.out).mono ?_); (case side1 => repeat (first | exact (Kd.C_below HR0_2.out HB.out) | (with_reducible refine Kd.C_alloc ?_ _) | (with_reducible refine Kd.C_drewN ?_ _) | (with_reducible refine Kd.C_drew ?_))); (case side2 => exact HC0_2.out); rintro e w39 ⟨rfl, hb⟩; replace HO_286005 := aS_ (Kd.V_below (vk HO_286005.out) hb); replace BK285 := bb_ BK285 hb; replace HB := bw_ HB hb; try clear hb; obtain ⟨hcz40_0, hcz40_1, hcz40_2, hcz40_3, hcz40_4, hcz40_5, hfz40_0, hfz40_1, hfz40_2, hfz40_3, hfz40_4, hfz40_5⟩ := c6_ BK285.out) | (go_at_call 50; (with_reducible refine (sr25small.calls kj1 _ _ l0_3 false _ ?side1 ?side2 A26.out).mono ?_); (case side1 => repeat (first | exact (Kd.C_below HR0_3.out HB.out) | (with_reducible refine Kd.C_alloc ?_ _) | (with_reducible refine Kd.C_drewN ?_ _) | (with_reducible refine Kd.C_drew ?_))); (case side2 => exact HC0_3.out); rintro e w41 ⟨rfl, hb⟩; replace HO_286005 := aS_ (Kd.V_below (vk HO_286005.out) hb); replace BK285 := bb_ BK285 hb; replace HB := bw_ HB hb; try clear hb))
          go_meet
          case rel => exact ⟨_, (true), t0, H', ⟨by have := HJ1.out; first | omega | exact Nat.le_refl _⟩, ⟨vk HO_286005.out⟩, ⟨bq BK285.out⟩, ⟨wk HB.out⟩⟩
        ·replace c25 := Bool.eq_false_iff.mpr c25
         subst c25
         rw [if_neg Bool.false_ne_true] at H
         have H' := aS_ H
         clear H
         obtain ⟨hcz42_0, hcz42_1, hcz42_2, hcz42_3, hcz42_4, hcz42_5, hfz42_0, hfz42_1, hfz42_2, hfz42_3, hfz42_4, hfz42_5⟩ := c6_ BK285.out
         go_wp2_with (first | (go_at_call 50; (with_reducible refine (sr25small.calls kj1 _ _ l0_2 false _ ?side1 ?side2 A24.out).mono ?_); (case side1 => repeat (first | exact (Kd.C_below HR0_2.out HB.out) | (with_reducible refine Kd.C_alloc ?_ _) | (with_reducible refine Kd.C_drewN ?_ _) | (with_reducible refine Kd.C_drew ?_))); (case side2 => exact HC0_2.out); rintro e w43 ⟨rfl, hb⟩; replace HO_286005 := aS_ (Kd.V_below (vk HO_286005.out) hb); replace BK285 := bb_ BK285 hb; replace HB := bw_ HB hb; try clear hb))
         go_meet
         case rel => exact ⟨_, (true), t0, H', ⟨by have := HJ1.out; first | omega | exact Nat.le_refl _⟩, ⟨vk HO_286005.out⟩, ⟨bq BK285.out⟩, ⟨wk HB.out⟩⟩
    case rest =>
     clear HC17
     try clear c1
     try clear c2
     try clear p2
     try clear c4
     try clear c5
     try clear c6
     try clear c6b0
     try clear c6b1
     try clear c16
     try clear c18
     try clear c18b0
     try clear c18b1
     try clear c20
     try clear c20b0
     try clear c20b1
     try clear c21
     try clear c22
     try clear c22b0
     try clear c22b1
     try clear c25
     try clear c27
     try clear hcz11_0 hcz11_1 hcz11_2 hcz11_3 hcz11_4 hcz11_5 hcz13_0 hcz13_1 hcz13_2 hcz13_3 hcz13_4 hcz13_5 hcz14_0 hcz14_1 hcz14_2 hcz14_3 hcz14_4 hcz14_5 hcz19_0 hcz19_1 hcz19_2 hcz19_3 hcz19_4 hcz19_5 hcz21_0 hcz21_1 hcz21_2 hcz21_3 hcz21_4 hcz21_5 hcz23_0 hcz23_1 hcz23_2 hcz23_3 hcz23_4 hcz23_5 hcz29_0 hcz29_1 hcz29_2 hcz29_3 hcz29_4 hcz29_5 hcz31_0 hcz31_1 hcz31_2 hcz31_3 hcz31_4 hcz31_5 hcz33_0 hcz33_1 hcz33_2 hcz33_3 hcz33_4 hcz33_5 hcz38_0 hcz38_1 hcz38_2 hcz38_3 hcz38_4 hcz38_5 hcz40_0 hcz40_1 hcz40_2 hcz40_3 hcz40_4 hcz40_5 hcz42_0 hcz42_1 hcz42_2 hcz42_3 hcz42_4 hcz42_5 hcz7_0 hcz7_1 hcz7_2 hcz7_3 hcz7_4 hcz7_5 hcz9_0 hcz9_1 hcz9_2 hcz9_3 hcz9_4 hcz9_5 hfz11_0 hfz11_1 hfz11_2 hfz11_3 hfz11_4 hfz11_5 hfz13_0 hfz13_1 hfz13_2 hfz13_3 hfz13_4 hfz13_5 hfz14_0 hfz14_1 hfz14_2 hfz14_3 hfz14_4 hfz14_5 hfz19_0 hfz19_1 hfz19_2 hfz19_3 hfz19_4 hfz19_5 hfz21_0 hfz21_1 hfz21_2 hfz21_3 hfz21_4 hfz21_5 hfz23_0 hfz23_1 hfz23_2 hfz23_3 hfz23_4 hfz23_5 hfz29_0 hfz29_1 hfz29_2 hfz29_3 hfz29_4 hfz29_5 hfz31_0 hfz31_1 hfz31_2 hfz31_3 hfz31_4 hfz31_5 hfz33_0 hfz33_1 hfz33_2 hfz33_3 hfz33_4 hfz33_5 hfz38_0 hfz38_1 hfz38_2 hfz38_3 hfz38_4 hfz38_5 hfz40_0 hfz40_1 hfz40_2 hfz40_3 hfz40_4 hfz40_5 hfz42_0 hfz42_1 hfz42_2 hfz42_3 hfz42_4 hfz42_5 hfz7_0 hfz7_1 hfz7_2 hfz7_3 hfz7_4 hfz7_5 hfz9_0 hfz9_1 hfz9_2 hfz9_3 hfz9_4 hfz9_5
     try clear p2
     obtain ⟨kq, x58_16, rfl, HA, HJ16, HO_286005, BK285, HB⟩ := hcut
     cases kq with
     | zero => exact absurd HA.out (by simp [sr25Right.j1])
     | succ kj16 =>
      have H := HA.out
      clear HA
      simp only [sr25Right.j1] at H
      by_cases c44 : x58_16 = true
      ·subst c44
       rw [if_pos rfl] at H
       obtain rfl := Option.some.inj H
       go_wp2
       go_ret
       exact ⟨t1, wk HB.out⟩
      ·replace c44 := Bool.eq_false_iff.mpr c44
       subst c44
       rw [if_neg Bool.false_ne_true] at H
       by_cases c45 : (l0_5.length : Int) > 0
       ·rw [if_pos c45] at H
        have c45b0 := decide_eq_true c45
        have c45b1 : decide (0 < l0_5.length) = true := decide_eq_true (by omega)
        clear c45
        replace H := Option.bind_eq_some_iff.mp H
        obtain ⟨t294, A460, H⟩ := H
        try dsimp only at H
        have A46 := aS_ A460
        clear A460
        have HC47 := aS_ H
        clear H
        obtain ⟨hcz48_0, hcz48_1, hcz48_2, hcz48_3, hcz48_4, hcz48_5, hfz48_0, hfz48_1, hfz48_2, hfz48_3, hfz48_4, hfz48_5⟩ := c6_ BK285.out
        go_upto_region 8 with (first | (refine cl_ (some 68) Try.func51 #[.agg #[.slice A0_5 l0_5.length c0_5]] ?_; (with_reducible refine (sr23Inverse.calls kj16 _ _ l0_5 t294 _ ?side1 ?side2 A46.out).mono ?_); (case side1 => repeat (first | exact (Kd.V_reads' HO_286005.out).2.2 | (with_reducible refine Kd.C_alloc ?_ _) | (with_reducible refine Kd.C_drewN ?_ _) | (with_reducible refine Kd.C_drew ?_))); (case side2 => exact (Kd.V_reads' HO_286005.out).2.1); rintro e w49 ⟨v295, rfl, ho0, hb⟩; refine ⟨_, rfl, ?_⟩; replace HO_286005 := aS_ (Kd.V_elder' (vk HO_286005.out) (Kd.R_base ho0) hb); have HO296 := aS_ (Kd.R_lower (Kd.R_newM (M := fun k_ => (w.heap.size ≤ k_)) ho0 (below_size (wk HB.out)) (fun k_ h_ => h_)) (below_size (wk HB.out))); replace BK285 := bb_ BK285 hb; replace HB := bw_ HB hb; try clear hb; (try clear ho0)) | ((with_reducible refine gate_dst (N := 4) rfl ?_); (try (refine gate_guard (by rfl) ?_; dsimp only)); refine bx_ 4 #[.slice none 0 0] 38 ?_; intro gb297 hg w50 hbox hb; replace HO_286005 := aS_ (Kd.V_below (Kd.V_elderB (vk HO_286005.out) gb297 (Nat.le_of_eq hg.symm)) hb); replace HO296 := rb_ HO296 hb; have BK297 := aS_ (hbox); have GW297 := ge_ hg (wk HB.out); have GE297 := ge_ hg (wk HB.out); replace HB := bw_ HB hb; have NB285_297 := nq_ hg (bk BK285.out); replace BK285 := bb_ BK285 hb; have NB297_285 := nr_ NB285_297; clear hb hbox hg; obtain ⟨Ao51, co51, eo51⟩ := Kd.R_slice HO296.out; subst eo51; have hnb52 := NB297_285.out; have hnc52 := NB285_297.out; obtain ⟨hcz53_0, hfz53_0⟩ := c1_ BK297.out))
        (try simp only [Act.put, List.setIfInBounds_toArray, List.set_cons_zero, List.set_cons_succ])
        go_cut [84] (fun v84 wc => ∃ (kq : Nat) (x84_46 : Bool), v84 = .bool x84_46 ∧ Aside0 (sr25Right.j2 kq x84_46 a0_0 l0_1 l0_2 l0_3 a0_4 l0_5 t294 = some r) ∧ Aside0 (kq ≤ kj16) ∧ Aside0 (Kd.V k88 88 wc w.heap.size (fun k_ => (P0_5_ k_ ∨ w.heap.size ≤ k_) ∧ some k_ ≠ ((.slice Ao51 t294.length co51) : Value).ownBlock ∧ k_ ≠ gb285 ∧ k_ ≠ gb297) (.slice A0_5 l0_5.length c0_5) l0_5) ∧ Aside0 (Kd.R k88 88 wc w.heap.size (fun k_ => (w.heap.size ≤ k_)) (.slice Ao51 t294.length co51) t294) ∧ Aside0 (wc.heap[gb285]? = some (.cells #[.string a0_0, (.slice A0_1 l0_1.length c0_1), (.slice A0_2 l0_2.length c0_2), (.slice A0_3 l0_3.length c0_3), .bool a0_4, (.slice A0_5 l0_5.length c0_5)] 26 (0, 0))) ∧ Aside0 (wc.heap[gb297]? = some (.cells #[(.slice Ao51 t294.length co51)] 38 (0, 0))) ∧ Aside0 (Below w.heap.size w wc))
        case first =>
         have H := HC47.out
         clear HC47
         by_cases c54 : a0_4 = true
         ·subst c54
          rw [if_pos rfl] at H
          by_cases c55 : (l0_3.length : Int) > 0
          ·rw [if_pos c55] at H
           have c55b0 := decide_eq_true c55
           have c55b1 : decide (0 < l0_3.length) = true := decide_eq_true (by omega)
           clear c55
           (first | rw [c55b0] | (simp only [i64_w, i32_w]; rw [c55b0]) | skip)
           have H' := aS_ H
           clear H
           have hnb56 := NB285_297.out
           have hnc56 := NB297_285.out
           obtain ⟨hcz57_0, hcz57_1, hcz57_2, hcz57_3, hcz57_4, hcz57_5, hfz57_0, hfz57_1, hfz57_2, hfz57_3, hfz57_4, hfz57_5⟩ := c6_ BK285.out
           go_wp2
           go_meet
           case rel => exact ⟨_, (true), t0, H', ⟨by have := HJ1.out; have := HJ16.out; first | omega | exact Nat.le_refl _⟩, ⟨by (with_reducible repeat (first | apply Kd.V_alloc | apply Kd.V_drewN | apply Kd.V_drew)); exact Kd.V_mono (Kd.V_far (p := ⟨gb297, 0, none⟩) (Kd.V_mono HO_286005.out (fun k_ hk => (⟨hk, hk.2⟩ : _ ∧ k_ ≠ gb297))) (fun _ hk => hk.2) (.slice Ao51 t294.length co51)) (fun _ hk => ⟨hk.1.1.1.1, ⟨hk.1.1.2, ⟨hk.1.1.1.2, hk.1.2⟩⟩⟩)⟩, ⟨by (with_reducible repeat (first | apply Kd.R_alloc | apply Kd.R_drewN | apply Kd.R_drew)); exact Kd.R_mono (Kd.R_far (p := ⟨gb297, 0, none⟩) (Kd.R_types HO296.out BK297.out (by decide)) (fun _ hk => hk.2) (.slice Ao51 t294.length co51)) (fun _ hk => hk.1.1)⟩, ⟨bq BK285.out⟩, ⟨bp BK297.out⟩, ⟨wk HB.out⟩⟩
          ·rw [if_neg c55] at H
           have c55b0 := decide_eq_false c55
           have c55b1 : decide (0 < l0_3.length) = false := decide_eq_false (by omega)
           clear c55
           (first | rw [c55b0] | (simp only [i64_w, i32_w]; rw [c55b0]) | skip)
           replace H := Option.bind_eq_some_iff.mp H
           obtain ⟨t298, A580, H⟩ := H
           try dsimp only at H
           have A58 := aS_ A580
           clear A580
           have H' := aS_ H
           clear H
           have hnb59 := NB285_297.out
           have hnc59 := NB297_285.out
           obtain ⟨hcz60_0, hcz60_1, hcz60_2, hcz60_3, hcz60_4, hcz60_5, hfz60_0, hfz60_1, hfz60_2, hfz60_3, hfz60_4, hfz60_5⟩ := c6_ BK285.out
           obtain ⟨hcz61_0, hfz61_0⟩ := c1_ BK297.out
           go_wp2_with (first | (go_at_call 52; (with_reducible refine (sr23Right.calls kj16 a0_0 _ _ t294 t298 _ ?side1 ?side2 A58.out).mono ?_); (case side1 => refine (Kd.R_reads' (e := 88) (base := w.heap.size) (ok := fun k_ => ((w.heap.size ≤ k_) ∧ True)) (n := t294.length) (c := co51) ?_).2.2; exact (by (with_reducible repeat (first | apply Kd.R_alloc | apply Kd.R_drewN | apply Kd.R_drew)); exact (Kd.R_mono (Kd.R_far (p := ⟨gb297, 0, none⟩) (Kd.R_types HO296.out BK297.out (by decide)) (fun _ hk => hk.2) (.slice Ao51 t294.length co51)) (fun _ h_ => h_.1)))); (case side2 => exact (Kd.R_reads' HO296.out).2.1); rintro e w62 ⟨rfl, hb⟩; replace HO_286005 := aS_ (Kd.V_below (by (with_reducible repeat (first | apply Kd.V_alloc | apply Kd.V_drewN | apply Kd.V_drew)); exact (Kd.V_mono (Kd.V_far (p := ⟨gb297, 0, none⟩) (Kd.V_mono HO_286005.out (fun k_ hk => (⟨hk, hk.2⟩ : _ ∧ k_ ≠ gb297))) (fun _ hk => hk.2) (.slice Ao51 t294.length co51)) (fun _ h_ => h_.1))) hb); replace HO296 := aS_ (Kd.R_below (by (with_reducible repeat (first | apply Kd.R_alloc | apply Kd.R_drewN | apply Kd.R_drew)); exact (Kd.R_mono (Kd.R_far (p := ⟨gb297, 0, none⟩) (Kd.R_types HO296.out BK297.out (by decide)) (fun _ hk => hk.2) (.slice Ao51 t294.length co51)) (fun _ h_ => h_.1))) hb); replace BK285 := aS_ (blk_below (bq BK285.out) hb); replace BK297 := aS_ (blk_below (g := gb297) (o := .cells #[.slice Ao51 t294.length co51] 38 (0, 0)) (bp BK297.out) hb); replace HB := bw_ HB hb; try clear hb))
           go_meet
           case rel => exact ⟨_, (!t298), t0, H', ⟨by have := HJ1.out; have := HJ16.out; first | omega | exact Nat.le_refl _⟩, ⟨by (with_reducible repeat (first | apply Kd.V_alloc | apply Kd.V_drewN | apply Kd.V_drew)); exact Kd.V_mono HO_286005.out (fun _ hk => ⟨hk.1.1.1, ⟨hk.1.2, ⟨hk.1.1.2, hk.2⟩⟩⟩)⟩, ⟨by (with_reducible repeat (first | apply Kd.R_alloc | apply Kd.R_drewN | apply Kd.R_drew)); exact Kd.R_mono HO296.out (fun _ hk => hk.1)⟩, ⟨bq BK285.out⟩, ⟨bq BK297.out⟩, ⟨wk HB.out⟩⟩
         ·replace c54 := Bool.eq_false_iff.mpr c54
          subst c54
          rw [if_neg Bool.false_ne_true] at H
          have H' := aS_ H
          clear H
          have hnb63 := NB285_297.out
          have hnc63 := NB297_285.out
          obtain ⟨hcz64_0, hcz64_1, hcz64_2, hcz64_3, hcz64_4, hcz64_5, hfz64_0, hfz64_1, hfz64_2, hfz64_3, hfz64_4, hfz64_5⟩ := c6_ BK285.out
          go_wp2
          go_meet
          case rel => exact ⟨_, (true), t0, H', ⟨by have := HJ1.out; have := HJ16.out; first | omega | exact Nat.le_refl _⟩, ⟨by (with_reducible repeat (first | apply Kd.V_alloc | apply Kd.V_drewN | apply Kd.V_drew)); exact Kd.V_mono (Kd.V_far (p := ⟨gb297, 0, none⟩) (Kd.V_mono HO_286005.out (fun k_ hk => (⟨hk, hk.2⟩ : _ ∧ k_ ≠ gb297))) (fun _ hk => hk.2) (.slice Ao51 t294.length co51)) (fun _ hk => ⟨hk.1.1.1.1, ⟨hk.1.1.2, ⟨hk.1.1.1.2, hk.1.2⟩⟩⟩)⟩, ⟨by (with_reducible repeat (first | apply Kd.R_alloc | apply Kd.R_drewN | apply Kd.R_drew)); exact Kd.R_mono (Kd.R_far (p := ⟨gb297, 0, none⟩) (Kd.R_types HO296.out BK297.out (by decide)) (fun _ hk => hk.2) (.slice Ao51 t294.length co51)) (fun _ hk => hk.1.1)⟩, ⟨bq BK285.out⟩, ⟨bp BK297.out⟩, ⟨wk HB.out⟩⟩
        case rest =>
         clear HC47
         try clear c1
         try clear c2
         try clear p2
         try clear c4
         try clear c5
         try clear c6
         try clear c6b0
         try clear c6b1
         try clear c16
         try clear c18
         try clear c18b0
         try clear c18b1
         try clear c20
         try clear c20b0
         try clear c20b1
         try clear c21
         try clear c22
         try clear c22b0
         try clear c22b1
         try clear c25
         try clear c27
         try clear c44
         try clear c45
         try clear c45b0
         try clear c45b1
         try clear c51
         try clear c52
         try clear c54
         try clear c55
         try clear c55b0
         try clear c55b1
         try clear c56
         try clear c59
         try clear c63
         try clear hcz11_0 hcz11_1 hcz11_2 hcz11_3 hcz11_4 hcz11_5 hcz13_0 hcz13_1 hcz13_2 hcz13_3 hcz13_4 hcz13_5 hcz14_0 hcz14_1 hcz14_2 hcz14_3 hcz14_4 hcz14_5 hcz19_0 hcz19_1 hcz19_2 hcz19_3 hcz19_4 hcz19_5 hcz21_0 hcz21_1 hcz21_2 hcz21_3 hcz21_4 hcz21_5 hcz23_0 hcz23_1 hcz23_2 hcz23_3 hcz23_4 hcz23_5 hcz29_0 hcz29_1 hcz29_2 hcz29_3 hcz29_4 hcz29_5 hcz31_0 hcz31_1 hcz31_2 hcz31_3 hcz31_4 hcz31_5 hcz33_0 hcz33_1 hcz33_2 hcz33_3 hcz33_4 hcz33_5 hcz38_0 hcz38_1 hcz38_2 hcz38_3 hcz38_4 hcz38_5 hcz40_0 hcz40_1 hcz40_2 hcz40_3 hcz40_4 hcz40_5 hcz42_0 hcz42_1 hcz42_2 hcz42_3 hcz42_4 hcz42_5 hcz48_0 hcz48_1 hcz48_2 hcz48_3 hcz48_4 hcz48_5 hcz53_0 hcz57_0 hcz57_1 hcz57_2 hcz57_3 hcz57_4 hcz57_5 hcz60_0 hcz60_1 hcz60_2 hcz60_3 hcz60_4 hcz60_5 hcz61_0 hcz64_0 hcz64_1 hcz64_2 hcz64_3 hcz64_4 hcz64_5 hcz7_0 hcz7_1 hcz7_2 hcz7_3 hcz7_4 hcz7_5 hcz9_0 hcz9_1 hcz9_2 hcz9_3 hcz9_4 hcz9_5 hfz11_0 hfz11_1 hfz11_2 hfz11_3 hfz11_4 hfz11_5 hfz13_0 hfz13_1 hfz13_2 hfz13_3 hfz13_4 hfz13_5 hfz14_0 hfz14_1 hfz14_2 hfz14_3 hfz14_4 hfz14_5 hfz19_0 hfz19_1 hfz19_2 hfz19_3 hfz19_4 hfz19_5 hfz21_0 hfz21_1 hfz21_2 hfz21_3 hfz21_4 hfz21_5 hfz23_0 hfz23_1 hfz23_2 hfz23_3 hfz23_4 hfz23_5 hfz29_0 hfz29_1 hfz29_2 hfz29_3 hfz29_4 hfz29_5 hfz31_0 hfz31_1 hfz31_2 hfz31_3 hfz31_4 hfz31_5 hfz33_0 hfz33_1 hfz33_2 hfz33_3 hfz33_4 hfz33_5 hfz38_0 hfz38_1 hfz38_2 hfz38_3 hfz38_4 hfz38_5 hfz40_0 hfz40_1 hfz40_2 hfz40_3 hfz40_4 hfz40_5 hfz42_0 hfz42_1 hfz42_2 hfz42_3 hfz42_4 hfz42_5 hfz48_0 hfz48_1 hfz48_2 hfz48_3 hfz48_4 hfz48_5 hfz53_0 hfz57_0 hfz57_1 hfz57_2 hfz57_3 hfz57_4 hfz57_5 hfz60_0 hfz60_1 hfz60_2 hfz60_3 hfz60_4 hfz60_5 hfz61_0 hfz64_0 hfz64_1 hfz64_2 hfz64_3 hfz64_4 hfz64_5 hfz7_0 hfz7_1 hfz7_2 hfz7_3 hfz7_4 hfz7_5 hfz9_0 hfz9_1 hfz9_2 hfz9_3 hfz9_4 hfz9_5
         try clear p2
         obtain ⟨kq, x84_46, rfl, HA, HJ46, HO_286005, HO_298000, BK285, BK297, HB⟩ := hcut
         cases kq with
         | zero => exact absurd HA.out (by simp [sr25Right.j2])
         | succ kj46 =>
          have H := HA.out
          clear HA
          simp only [sr25Right.j2] at H
          by_cases c65 : x84_46 = true
          ·subst c65
           rw [if_pos rfl] at H
           obtain rfl := Option.some.inj H
           go_wp2
           go_ret
           exact ⟨t1, wk HB.out⟩
          ·replace c65 := Bool.eq_false_iff.mpr c65
           subst c65
           rw [if_neg Bool.false_ne_true] at H
           replace H := Option.bind_eq_some_iff.mp H
           obtain ⟨⟨t299, t300⟩, A660, H⟩ := H
           try dsimp only at H
           have A66 := aS_ A660
           clear A660
           replace H := Option.bind_eq_some_iff.mp H
           obtain ⟨t301, A670, H⟩ := H
           try dsimp only at H
           have A67 := aS_ A670
           clear A670
           by_cases c68 : t301 = true
           ·subst c68
            rw [if_pos rfl] at H
            replace H := Option.bind_eq_some_iff.mp H
            obtain ⟨t302, A690, H⟩ := H
            try dsimp only at H
            have A69 := aS_ A690
            clear A690
            obtain rfl := Option.some.inj H
            have hnb70 := NB285_297.out
            have hnc70 := NB297_285.out
            obtain ⟨hcz71_0, hcz71_1, hcz71_2, hcz71_3, hcz71_4, hcz71_5, hfz71_0, hfz71_1, hfz71_2, hfz71_3, hfz71_4, hfz71_5⟩ := c6_ BK285.out
            obtain ⟨hcz72_0, hfz72_0⟩ := c1_ BK297.out
            go_wp2_with (first | (refine cl_ (some 89) Try.func53 #[.string a0_0, .agg #[.slice Ao51 t294.length co51]] ?_; (with_reducible refine (sr23Run.calls kj46 a0_0 _ _ t294 t299 t300 _ ?side1 ?side2 A66.out).mono ?_); (case side1 => repeat (first | exact (Kd.R_reads' HO_298000.out).2.2 | (with_reducible refine Kd.C_alloc ?_ _) | (with_reducible refine Kd.C_drewN ?_ _) | (with_reducible refine Kd.C_drew ?_))); (case side2 => exact (Kd.R_reads' HO_298000.out).2.1); rintro e w73 ⟨rfl, hb⟩; refine ⟨_, rfl, ?_⟩; replace HO_286005 := aS_ (Kd.V_below (vk HO_286005.out) hb); replace HO_298000 := rb_ HO_298000 hb; replace BK285 := bb_ BK285 hb; replace BK297 := bb_ BK297 hb; replace HB := bw_ HB hb; try clear hb; obtain ⟨hcz74_0, hcz74_1, hcz74_2, hcz74_3, hcz74_4, hcz74_5, hfz74_0, hfz74_1, hfz74_2, hfz74_3, hfz74_4, hfz74_5⟩ := c6_ BK285.out) | (refine cl_ (some 95) Try.func54 #[.string t299, .slice A0_2 l0_2.length c0_2] ?_; (with_reducible refine (sr24Undoes.calls kj46 t299 _ _ l0_2 true _ ?side1 ?side2 A67.out).mono ?_); (case side1 => repeat (first | exact (Kd.C_below HR0_2.out HB.out) | (with_reducible refine Kd.C_alloc ?_ _) | (with_reducible refine Kd.C_drewN ?_ _) | (with_reducible refine Kd.C_drew ?_))); (case side2 => exact HC0_2.out); rintro e w75 ⟨rfl, hb⟩; refine ⟨_, rfl, ?_⟩; replace HO_286005 := aS_ (Kd.V_below (vk HO_286005.out) hb); replace HO_298000 := rb_ HO_298000 hb; replace BK285 := bb_ BK285 hb; replace BK297 := bb_ BK297 hb; replace HB := bw_ HB hb; try clear hb; obtain ⟨hcz76_0, hcz76_1, hcz76_2, hcz76_3, hcz76_4, hcz76_5, hfz76_0, hfz76_1, hfz76_2, hfz76_3, hfz76_4, hfz76_5⟩ := c6_ BK285.out) | (go_at_call 55; (with_reducible refine (sr24Redoes.calls kj46 a0_0 _ _ l0_3 t302 _ ?side1 ?side2 A69.out).mono ?_); (case side1 => repeat (first | exact (Kd.C_below HR0_3.out HB.out) | (with_reducible refine Kd.C_alloc ?_ _) | (with_reducible refine Kd.C_drewN ?_ _) | (with_reducible refine Kd.C_drew ?_))); (case side2 => exact HC0_3.out); rintro e w77 ⟨rfl, hb⟩; replace HO_286005 := aS_ (Kd.V_below (vk HO_286005.out) hb); replace HO_298000 := rb_ HO_298000 hb; replace BK285 := bb_ BK285 hb; replace BK297 := bb_ BK297 hb; replace HB := bw_ HB hb; try clear hb))
            go_ret
            exact ⟨t1, wk HB.out⟩
           ·replace c68 := Bool.eq_false_iff.mpr c68
            subst c68
            rw [if_neg Bool.false_ne_true] at H
            obtain rfl := Option.some.inj H
            have hnb78 := NB285_297.out
            have hnc78 := NB297_285.out
            obtain ⟨hcz79_0, hcz79_1, hcz79_2, hcz79_3, hcz79_4, hcz79_5, hfz79_0, hfz79_1, hfz79_2, hfz79_3, hfz79_4, hfz79_5⟩ := c6_ BK285.out
            obtain ⟨hcz80_0, hfz80_0⟩ := c1_ BK297.out
            go_wp2_with (first | (refine cl_ (some 89) Try.func53 #[.string a0_0, .agg #[.slice Ao51 t294.length co51]] ?_; (with_reducible refine (sr23Run.calls kj46 a0_0 _ _ t294 t299 t300 _ ?side1 ?side2 A66.out).mono ?_); (case side1 => repeat (first | exact (Kd.R_reads' HO_298000.out).2.2 | (with_reducible refine Kd.C_alloc ?_ _) | (with_reducible refine Kd.C_drewN ?_ _) | (with_reducible refine Kd.C_drew ?_))); (case side2 => exact (Kd.R_reads' HO_298000.out).2.1); rintro e w81 ⟨rfl, hb⟩; refine ⟨_, rfl, ?_⟩; replace HO_286005 := aS_ (Kd.V_below (vk HO_286005.out) hb); replace HO_298000 := rb_ HO_298000 hb; replace BK285 := bb_ BK285 hb; replace BK297 := bb_ BK297 hb; replace HB := bw_ HB hb; try clear hb; obtain ⟨hcz82_0, hcz82_1, hcz82_2, hcz82_3, hcz82_4, hcz82_5, hfz82_0, hfz82_1, hfz82_2, hfz82_3, hfz82_4, hfz82_5⟩ := c6_ BK285.out) | (refine cl_ (some 95) Try.func54 #[.string t299, .slice A0_2 l0_2.length c0_2] ?_; (with_reducible refine (sr24Undoes.calls kj46 t299 _ _ l0_2 false _ ?side1 ?side2 A67.out).mono ?_); (case side1 => repeat (first | exact (Kd.C_below HR0_2.out HB.out) | (with_reducible refine Kd.C_alloc ?_ _) | (with_reducible refine Kd.C_drewN ?_ _) | (with_reducible refine Kd.C_drew ?_))); (case side2 => exact HC0_2.out); rintro e w83 ⟨rfl, hb⟩; refine ⟨_, rfl, ?_⟩; replace HO_286005 := aS_ (Kd.V_below (vk HO_286005.out) hb); replace HO_298000 := rb_ HO_298000 hb; replace BK285 := bb_ BK285 hb; replace BK297 := bb_ BK297 hb; replace HB := bw_ HB hb; try clear hb))
            go_ret
            exact ⟨t1, wk HB.out⟩
       ·rw [if_neg c45] at H
        have c45b0 := decide_eq_false c45
        have c45b1 : decide (0 < l0_5.length) = false := decide_eq_false (by omega)
        clear c45
        replace H := Option.bind_eq_some_iff.mp H
        obtain ⟨t303, A840, H⟩ := H
        try dsimp only at H
        have A84 := aS_ A840
        clear A840
        by_cases c85 : t303 = true
        ·subst c85
         rw [if_pos rfl] at H
         replace H := Option.bind_eq_some_iff.mp H
         obtain ⟨t304, A860, H⟩ := H
         try dsimp only at H
         have A86 := aS_ A860
         clear A860
         obtain rfl := Option.some.inj H
         obtain ⟨hcz87_0, hcz87_1, hcz87_2, hcz87_3, hcz87_4, hcz87_5, hfz87_0, hfz87_1, hfz87_2, hfz87_3, hfz87_4, hfz87_5⟩ := c6_ BK285.out
         go_wp2_with (first | (refine cl_ (some 95) Try.func54 #[.string a0_0, .slice A0_2 l0_2.length c0_2] ?_; (with_reducible refine (sr24Undoes.calls kj16 a0_0 _ _ l0_2 true _ ?side1 ?side2 A84.out).mono ?_); (case side1 => repeat (first | exact (Kd.C_below HR0_2.out HB.out) | (with_reducible refine Kd.C_alloc ?_ _) | (with_reducible refine Kd.C_drewN ?_ _) | (with_reducible refine Kd.C_drew ?_))); (case side2 => exact HC0_2.out); rintro e w88 ⟨rfl, hb⟩; refine ⟨_, rfl, ?_⟩; replace HO_286005 := aS_ (Kd.V_below (vk HO_286005.out) hb); replace BK285 := bb_ BK285 hb; replace HB := bw_ HB hb; try clear hb; obtain ⟨hcz89_0, hcz89_1, hcz89_2, hcz89_3, hcz89_4, hcz89_5, hfz89_0, hfz89_1, hfz89_2, hfz89_3, hfz89_4, hfz89_5⟩ := c6_ BK285.out) | (go_at_call 55; (with_reducible refine (sr24Redoes.calls kj16 a0_0 _ _ l0_3 t304 _ ?side1 ?side2 A86.out).mono ?_); (case side1 => repeat (first | exact (Kd.C_below HR0_3.out HB.out) | (with_reducible refine Kd.C_alloc ?_ _) | (with_reducible refine Kd.C_drewN ?_ _) | (with_reducible refine Kd.C_drew ?_))); (case side2 => exact HC0_3.out); rintro e w90 ⟨rfl, hb⟩; replace HO_286005 := aS_ (Kd.V_below (vk HO_286005.out) hb); replace BK285 := bb_ BK285 hb; replace HB := bw_ HB hb; try clear hb))
         go_ret
         exact ⟨t1, wk HB.out⟩
        ·replace c85 := Bool.eq_false_iff.mpr c85
         subst c85
         rw [if_neg Bool.false_ne_true] at H
         obtain rfl := Option.some.inj H
         obtain ⟨hcz91_0, hcz91_1, hcz91_2, hcz91_3, hcz91_4, hcz91_5, hfz91_0, hfz91_1, hfz91_2, hfz91_3, hfz91_4, hfz91_5⟩ := c6_ BK285.out
         go_wp2_with (first | (refine cl_ (some 95) Try.func54 #[.string a0_0, .slice A0_2 l0_2.length c0_2] ?_; (with_reducible refine (sr24Undoes.calls kj16 a0_0 _ _ l0_2 false _ ?side1 ?side2 A84.out).mono ?_); (case side1 => repeat (first | exact (Kd.C_below HR0_2.out HB.out) | (with_reducible refine Kd.C_alloc ?_ _) | (with_reducible refine Kd.C_drewN ?_ _) | (with_reducible refine Kd.C_drew ?_))); (case side2 => exact HC0_2.out); rintro e w92 ⟨rfl, hb⟩; refine ⟨_, rfl, ?_⟩; replace HO_286005 := aS_ (Kd.V_below (vk HO_286005.out) hb); replace BK285 := bb_ BK285 hb; replace HB := bw_ HB hb; try clear hb))
         go_ret
         exact ⟨t1, wk HB.out⟩
end Go.Proofs.Ytnndanfghlnpfaa.P
