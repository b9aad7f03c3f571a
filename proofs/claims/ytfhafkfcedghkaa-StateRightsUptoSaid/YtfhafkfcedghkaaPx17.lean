import Derived.Test.YtfhafkfcedghkaaPx0
import Derived.Test.YtfhafkfcedghkaaPx16
namespace Go.Proofs.Ytfhafkfcedghkaa.P
open Go.RowKit Go.Proofs.YtfhafkfcedghkaaW.PrintWords Go.Proofs.YtfhafkfcedghkaaW.PrintLast Go.Proofs.YtfhafkfcedghkaaW.PrintMore
attribute [local go_sem] max2_int min2_int max_two min_two max_three min_three max_four min_four   -- for this text's walks alone
set_option linter.unusedVariables false
set_option linter.unusedSimpArgs false
/-! ### stylusref25_Show: function 11 -/
def stylusref25_Show.l0 : Nat → ByteArray → Int → ByteArray → List (S34) → List (S38) → List (S38) → Bool → List (S36) → Option (ByteArray)
 | 0, _, _, _, _, _, _, _, _ => none
 | k + 1, x3, x4, x262000, x262001, x262002, x262003, x262004, x262005 => if x4 < (x262001.length : Int) then (if x3.size + 5 ≤ 9223372036854775807 then (if 0 ≤ x4 then (if (x3 ++ (⟨#[109, 97, 114, 107, 32]⟩ : ByteArray)).size + ((rd_T34 x262001 x4).f0).size ≤ 9223372036854775807 then (if ((x3 ++ (⟨#[109, 97, 114, 107, 32]⟩ : ByteArray)) ++ ((rd_T34 x262001 x4).f0)).size + 1 ≤ 9223372036854775807 then ((stylusref03_Plain.f k ((rd_T34 x262001 x4).f1)).bind fun t264 => (if (((x3 ++ (⟨#[109, 97, 114, 107, 32]⟩ : ByteArray)) ++ ((rd_T34 x262001 x4).f0)) ++ (⟨#[32]⟩ : ByteArray)).size + t264.size ≤ 9223372036854775807 then (if ((((x3 ++ (⟨#[109, 97, 114, 107, 32]⟩ : ByteArray)) ++ ((rd_T34 x262001 x4).f0)) ++ (⟨#[32]⟩ : ByteArray)) ++ t264).size + 1 ≤ 9223372036854775807 then (stylusref25_Show.l0 k (((((x3 ++ (⟨#[109, 97, 114, 107, 32]⟩ : ByteArray)) ++ ((rd_T34 x262001 x4).f0)) ++ (⟨#[32]⟩ : ByteArray)) ++ t264) ++ (⟨#[10]⟩ : ByteArray)) (wrap64 (x4 + 1)) x262000 x262001 x262002 x262003 x262004 x262005) else (none)) else (none))) else (none)) else (none)) else (none)) else (none)) else (if x3.size + 5 ≤ 9223372036854775807 then ((stylusref03_Plain.f k (x262002.length : Int)).bind fun t265 => (if (x3 ++ (⟨#[117, 110, 100, 111, 32]⟩ : ByteArray)).size + t265.size ≤ 9223372036854775807 then (if ((x3 ++ (⟨#[117, 110, 100, 111, 32]⟩ : ByteArray)) ++ t265).size + 6 ≤ 9223372036854775807 then ((stylusref03_Plain.f k (x262003.length : Int)).bind fun t266 => (if (((x3 ++ (⟨#[117, 110, 100, 111, 32]⟩ : ByteArray)) ++ t265) ++ (⟨#[10, 114, 101, 100, 111, 32]⟩ : ByteArray)).size + t266.size ≤ 9223372036854775807 then (if ((((x3 ++ (⟨#[117, 110, 100, 111, 32]⟩ : ByteArray)) ++ t265) ++ (⟨#[10, 114, 101, 100, 111, 32]⟩ : ByteArray)) ++ t266).size + 1 ≤ 9223372036854775807 then (if x262004 = true then (if (((((x3 ++ (⟨#[117, 110, 100, 111, 32]⟩ : ByteArray)) ++ t265) ++ (⟨#[10, 114, 101, 100, 111, 32]⟩ : ByteArray)) ++ t266) ++ (⟨#[10]⟩ : ByteArray)).size + 5 ≤ 9223372036854775807 then ((stylusref03_Plain.f k (x262005.length : Int)).bind fun t267 => (if ((((((x3 ++ (⟨#[117, 110, 100, 111, 32]⟩ : ByteArray)) ++ t265) ++ (⟨#[10, 114, 101, 100, 111, 32]⟩ : ByteArray)) ++ t266) ++ (⟨#[10]⟩ : ByteArray)) ++ (⟨#[111, 112, 101, 110, 32]⟩ : ByteArray)).size + t267.size ≤ 9223372036854775807 then (if (((((((x3 ++ (⟨#[117, 110, 100, 111, 32]⟩ : ByteArray)) ++ t265) ++ (⟨#[10, 114, 101, 100, 111, 32]⟩ : ByteArray)) ++ t266) ++ (⟨#[10]⟩ : ByteArray)) ++ (⟨#[111, 112, 101, 110, 32]⟩ : ByteArray)) ++ t267).size + 1 ≤ 9223372036854775807 then (some ((((((((x3 ++ (⟨#[117, 110, 100, 111, 32]⟩ : ByteArray)) ++ t265) ++ (⟨#[10, 114, 101, 100, 111, 32]⟩ : ByteArray)) ++ t266) ++ (⟨#[10]⟩ : ByteArray)) ++ (⟨#[111, 112, 101, 110, 32]⟩ : ByteArray)) ++ t267) ++ (⟨#[10]⟩ : ByteArray))) else (none)) else (none))) else (none)) else (some (((((x3 ++ (⟨#[117, 110, 100, 111, 32]⟩ : ByteArray)) ++ t265) ++ (⟨#[10, 114, 101, 100, 111, 32]⟩ : ByteArray)) ++ t266) ++ (⟨#[10]⟩ : ByteArray)))) else (none)) else (none))) else (none)) else (none))) else (none))
def stylusref25_Show.f (k : Nat) (a0_0 : ByteArray) (l0_1 : List (S34)) (l0_2 : List (S38)) (l0_3 : List (S38)) (a0_4 : Bool) (l0_5 : List (S36)) : Option (ByteArray) := if 5 + a0_0.size ≤ 9223372036854775807 then (if ((⟨#[116, 101, 120, 116, 32]⟩ : ByteArray) ++ a0_0).size + 1 ≤ 9223372036854775807 then (stylusref25_Show.l0 k (((⟨#[116, 101, 120, 116, 32]⟩ : ByteArray) ++ a0_0) ++ (⟨#[10]⟩ : ByteArray)) 0 a0_0 l0_1 l0_2 l0_3 a0_4 l0_5) else (none)) else (none)
def stylusref25_Show.T5 : Bool × List (List Nat × List Nat) := (true, [([], []), ([0], [0]), ([], []), ([2], [2]), ([], []), ([3, 4], [3, 4]), ([5], [5]), ([6], [6]), ([1, 7], [1, 7]), ([8], [8]), ([], []), ([10], [10]), ([], []), ([11, 12], [11, 12]), ([13], [13]), ([14], [14]), ([15], [15]), ([9, 16], [9, 16]), ([17], [17]), ([18, 16, 0, 1, 2, 3, 4, 5, 6, 7, 8, 9, 10, 11, 12, 13, 14, 15, 16, 17, 18], [0, 18])])
def stylusref25_Show.B5 : List Nat := [0, 1, 0, 4, 0, 28, 60, 124, 255, 511, 0, 1024, 0, 7168, 15360, 31744, 64512, 131071, 262143, 524287]
theorem stylusref25_Show.tab5 : rtab .any (opsOf Try.f11 5) = stylusref25_Show.T5 := by kernel_rfl
theorem stylusref25_Show.bits5 : waitsOk stylusref25_Show.T5.2 stylusref25_Show.B5 = true := by kernel_rfl
def stylusref25_Show.T6 : Bool × List (List Nat × List Nat) := (true, [([], []), ([0], [0]), ([], []), ([2], [2]), ([3], [3]), ([4], [4]), ([1, 5], [1, 5]), ([6], [6]), ([], []), ([8], [8]), ([9], [9]), ([10, 5], [10]), ([7, 11], [7, 11]), ([12], [12]), ([13, 11, 0, 1, 2, 3, 4, 5, 6, 7, 8, 9, 10, 11, 12, 13], [0, 13])])
def stylusref25_Show.B6 : List Nat := [0, 1, 0, 4, 12, 28, 63, 127, 0, 256, 768, 1852, 4095, 8191, 16383]
theorem stylusref25_Show.tab6 : rtab .any (opsOf Try.f11 6) = stylusref25_Show.T6 := by kernel_rfl
theorem stylusref25_Show.bits6 : waitsOk stylusref25_Show.T6.2 stylusref25_Show.B6 = true := by kernel_rfl
set_option maxHeartbeats 8000000 in
set_option maxRecDepth 100000 in
theorem stylusref25_Show.calls (k : Nat) (a0_0 : ByteArray) (A0_1 : Option Addr) (c0_1 : Nat) (l0_1 : List (S34)) (A0_2 : Option Addr) (c0_2 : Nat) (l0_2 : List (S38)) (A0_3 : Option Addr) (c0_3 : Nat) (l0_3 : List (S38)) (a0_4 : Bool) (A0_5 : Option Addr) (c0_5 : Nat) (l0_5 : List (S36)) (r : ByteArray) (w : World) (hr0_1 : Kd.C k34 w A0_1 l0_1.length l0_1) (hc0_1 : l0_1.length ≤ c0_1) (hr0_2 : Kd.C k38 w A0_2 l0_2.length l0_2) (hc0_2 : l0_2.length ≤ c0_2) (hr0_3 : Kd.C k38 w A0_3 l0_3.length l0_3) (hc0_3 : l0_3.length ≤ c0_3) (hr0_5 : Kd.C k36 w A0_5 l0_5.length l0_5) (hc0_5 : l0_5.length ≤ c0_5) (h : stylusref25_Show.f k a0_0 l0_1 l0_2 l0_3 a0_4 l0_5 = some r) :
  Calls Try.prog 11 #[.agg #[.string a0_0, .slice A0_1 l0_1.length c0_1, .slice A0_2 l0_2.length c0_2, .slice A0_3 l0_3.length c0_3, .bool a0_4, .slice A0_5 l0_5.length c0_5]] w fun e w' => e = .returned (.string r) ∧ Below w.heap.size w w' := by
 have hu26 := Try.underlying26
 have HR0_1 := Aside0.mk hr0_1
 have HC0_1 := Aside0.mk hc0_1
 clear hr0_1 hc0_1
 have HR0_2 := Aside0.mk hr0_2
 have HC0_2 := Aside0.mk hc0_2
 clear hr0_2 hc0_2
 have HR0_3 := Aside0.mk hr0_3
 have HC0_3 := Aside0.mk hc0_3
 clear hr0_3 hc0_3
 have HR0_5 := Aside0.mk hr0_5
 have HC0_5 := Aside0.mk hc0_5
 clear hr0_5 hc0_5
 have HB := Aside0.mk (Below.refl w.heap.size w)
 have H : (if 5 + a0_0.size ≤ 9223372036854775807 then (if ((⟨#[116, 101, 120, 116, 32]⟩ : ByteArray) ++ a0_0).size + 1 ≤ 9223372036854775807 then (stylusref25_Show.l0 k (((⟨#[116, 101, 120, 116, 32]⟩ : ByteArray) ++ a0_0) ++ (⟨#[10]⟩ : ByteArray)) 0 a0_0 l0_1 l0_2 l0_3 a0_4 l0_5) else (none)) else (none)) = some r := h
 clear h
 by_cases c2 : 5 + a0_0.size ≤ 9223372036854775807
 ·rw [if_pos c2] at H
  have c2b0 := eq_true c2
  have c2b1 : decide (5 + a0_0.size ≤ 9223372036854775807) = true := decide_eq_true c2
  try have c2b2 : (9223372036854775807 < 5 + a0_0.size) = False := eq_false (Nat.not_lt.2 c2)
  by_cases c3 : ((⟨#[116, 101, 120, 116, 32]⟩ : ByteArray) ++ a0_0).size + 1 ≤ 9223372036854775807
  ·rw [if_pos c3] at H
   have c3b0 := eq_true c3
   have c3b1 : decide (((⟨#[116, 101, 120, 116, 32]⟩ : ByteArray) ++ a0_0).size + 1 ≤ 9223372036854775807) = true := decide_eq_true c3
   try have c3b2 : (9223372036854775807 < ((⟨#[116, 101, 120, 116, 32]⟩ : ByteArray) ++ a0_0).size + 1) = False := eq_false (Nat.not_lt.2 c3)
   try have c3b3 : (9223372036854775807 < 5 + a0_0.size + 1) = False := eq_false (by have h_ := c3; simp only [ByteArray.size_append] at h_; have hl0_ : ByteArray.size ⟨#[116, 101, 120, 116, 32]⟩ = 5 := rfl; omega)
   have H' := Aside0.mk H
   clear H
   go_enter Try.func11, Try.ntmps11
   go_wp2_with (first | ((with_reducible refine gate_dst (N := 1) rfl ?_); refine box_event ?hg (N := 1) ?hd (cs := #[.string a0_0, .slice A0_1 l0_1.length c0_1, .slice A0_2 l0_2.length c0_2, .slice A0_3 l0_3.length c0_3, .bool a0_4, .slice A0_5 l0_5.length c0_5]) (t := 26) ?hr ?_; (case hd => rfl); (case hg => rfl); (case hr => first | (go_simp; done) | (go_simp; rfl)); intro gb261 hg w4 hbox hb; have n0_ := Aside0.mk (below_step (by repeat (first | (with_reducible first | exact HB.out | apply below_alloc | apply pw_below_drewN | apply below_drew1) | exact HB.out)) hb); have n1_ := Aside0.mk (hbox); have n2_ := Aside0.mk ((by rw [hg]; exact (below_size (by repeat (first | (with_reducible first | exact HB.out | apply below_alloc | apply pw_below_drewN | apply below_drew1) | exact HB.out))) : w.heap.size ≤ gb261)); have n3_ := Aside0.mk ((by rw [hg]; exact (below_size (by repeat (first | (with_reducible first | exact HB.out | apply below_alloc | apply pw_below_drewN | apply below_drew1) | exact HB.out))) : w.heap.size ≤ gb261)); clear HB; have HB := n0_; have BK261 := n1_; have GW261 := n2_; have GE261 := n3_; clear n0_ n1_ n2_ n3_; clear hb hbox hg; have hcz5_0 : w4.cell? ⟨gb261, 0, none⟩ = some (.string a0_0) := (blk_cell BK261.out 0).trans rfl; have hcz5_1 : w4.cell? ⟨gb261, 1, none⟩ = some (.slice A0_1 l0_1.length c0_1) := (blk_cell BK261.out 1).trans rfl; have hcz5_2 : w4.cell? ⟨gb261, 2, none⟩ = some (.slice A0_2 l0_2.length c0_2) := (blk_cell BK261.out 2).trans rfl; have hcz5_3 : w4.cell? ⟨gb261, 3, none⟩ = some (.slice A0_3 l0_3.length c0_3) := (blk_cell BK261.out 3).trans rfl; have hcz5_4 : w4.cell? ⟨gb261, 4, none⟩ = some (.bool a0_4) := (blk_cell BK261.out 4).trans rfl; have hcz5_5 : w4.cell? ⟨gb261, 5, none⟩ = some (.slice A0_5 l0_5.length c0_5) := (blk_cell BK261.out 5).trans rfl; have hfz5_0 := blk_frozen BK261.out 0; have hfz5_1 := blk_frozen BK261.out 1; have hfz5_2 := blk_frozen BK261.out 2; have hfz5_3 := blk_frozen BK261.out 3; have hfz5_4 := blk_frozen BK261.out 4; have hfz5_5 := blk_frozen BK261.out 5))
   go_loopg [3, 4] k (fun kq v3 v4 w' => ∃ (x3_1 : ByteArray) (x4_1 : Int), v3 = .string x3_1 ∧ v4 = .int .i64 x4_1 ∧ Aside0 (stylusref25_Show.l0 kq x3_1 x4_1 a0_0 l0_1 l0_2 l0_3 a0_4 l0_5 = some r) ∧ Aside0 (kq ≤ k) ∧ Aside0 (w'.heap[gb261]? = some (.cells #[.string a0_0, (.slice A0_1 l0_1.length c0_1), (.slice A0_2 l0_2.length c0_2), (.slice A0_3 l0_3.length c0_3), .bool a0_4, (.slice A0_5 l0_5.length c0_5)] 26 (0, 0))) ∧ Aside0 (Below w.heap.size w w'))
   case atStart => exact ⟨(((⟨#[116, 101, 120, 116, 32]⟩ : ByteArray) ++ a0_0) ++ (⟨#[10]⟩ : ByteArray)), (0), (by first | rfl | (simp; done) | (simp [*]; done)), (by first | rfl | (simp; done) | (simp [*]; done)), H', ⟨Nat.le_refl _⟩, ⟨by (with_reducible repeat (first | refine blk_drewN ?_ _ | refine blk_drew ?_ | refine blk_alloc ?_ _)); exact BK261.out⟩, ⟨by repeat (first | (with_reducible first | exact HB.out | apply below_alloc | apply pw_below_drewN | apply below_drew1 | refine below_set ?_ GE261.out) | exact HB.out)⟩⟩
   case round =>
    clear H'
    try clear c1
    try clear c2
    try clear c2b0
    try clear c2b1
    try clear c2b2
    try clear p2
    try clear c3
    try clear c3b0
    try clear c3b1
    try clear c3b2
    try clear hcz5_0
    try clear hcz5_1
    try clear hcz5_2
    try clear hcz5_3
    try clear hcz5_4
    try clear hcz5_5
    try clear hfz5_0
    try clear hfz5_1
    try clear hfz5_2
    try clear hfz5_3
    try clear hfz5_4
    try clear hfz5_5
    obtain ⟨x3_1, x4_1, rfl, rfl, HA, HK1, BK261, HB⟩ := hrel
    cases gk with
    | zero => exact absurd HA.out (by simp [stylusref25_Show.l0])
    | succ k1 =>
     have H := HA.out
     clear HA
     simp only [stylusref25_Show.l0] at H
     by_cases c6 : x4_1 < (l0_1.length : Int)
     ·rw [if_pos c6] at H
      have c6b0 : decide (x4_1 < (l0_1.length : Int)) = true := decide_eq_true c6
      clear c6
      by_cases c7 : x3_1.size + 5 ≤ 9223372036854775807
      ·rw [if_pos c7] at H
       have c7b0 := eq_true c7
       have c7b1 : decide (x3_1.size + 5 ≤ 9223372036854775807) = true := decide_eq_true c7
       try have c7b2 : (9223372036854775807 < x3_1.size + 5) = False := eq_false (Nat.not_lt.2 c7)
       by_cases c8 : 0 ≤ x4_1
       ·rw [if_pos c8] at H
        have c8b0 : decide (0 ≤ x4_1) = true := decide_eq_true c8
        clear c8
        by_cases c9 : (x3_1 ++ (⟨#[109, 97, 114, 107, 32]⟩ : ByteArray)).size + ((rd_T34 l0_1 x4_1).f0).size ≤ 9223372036854775807
        ·rw [if_pos c9] at H
         have c9b0 := eq_true c9
         have c9b1 : decide ((x3_1 ++ (⟨#[109, 97, 114, 107, 32]⟩ : ByteArray)).size + ((rd_T34 l0_1 x4_1).f0).size ≤ 9223372036854775807) = true := decide_eq_true c9
         try have c9b2 : (9223372036854775807 < (x3_1 ++ (⟨#[109, 97, 114, 107, 32]⟩ : ByteArray)).size + ((rd_T34 l0_1 x4_1).f0).size) = False := eq_false (Nat.not_lt.2 c9)
         try have c9b3 : (9223372036854775807 < x3_1.size + 5 + ((rd_T34 l0_1 x4_1).f0).size) = False := eq_false (by have h_ := c9; simp only [ByteArray.size_append] at h_; have hl0_ : ByteArray.size ⟨#[109, 97, 114, 107, 32]⟩ = 5 := rfl; omega)
         by_cases c10 : ((x3_1 ++ (⟨#[109, 97, 114, 107, 32]⟩ : ByteArray)) ++ ((rd_T34 l0_1 x4_1).f0)).size + 1 ≤ 9223372036854775807
         ·rw [if_pos c10] at H
          have c10b0 := eq_true c10
          have c10b1 : decide (((x3_1 ++ (⟨#[109, 97, 114, 107, 32]⟩ : ByteArray)) ++ ((rd_T34 l0_1 x4_1).f0)).size + 1 ≤ 9223372036854775807) = true := decide_eq_true c10
          try have c10b2 : (9223372036854775807 < ((x3_1 ++ (⟨#[109, 97, 114, 107, 32]⟩ : ByteArray)) ++ ((rd_T34 l0_1 x4_1).f0)).size + 1) = False := eq_false (Nat.not_lt.2 c10)
          try have c10b3 : (9223372036854775807 < x3_1.size + 5 + ((rd_T34 l0_1 x4_1).f0).size + 1) = False := eq_false (by have h_ := c10; simp only [ByteArray.size_append] at h_; have hl0_ : ByteArray.size ⟨#[109, 97, 114, 107, 32]⟩ = 5 := rfl; omega)
          replace H := Option.bind_eq_some_iff.mp H
          obtain ⟨t264, A110, H⟩ := H
          replace H : (if (((x3_1 ++ (⟨#[109, 97, 114, 107, 32]⟩ : ByteArray)) ++ ((rd_T34 l0_1 x4_1).f0)) ++ (⟨#[32]⟩ : ByteArray)).size + t264.size ≤ 9223372036854775807 then (if ((((x3_1 ++ (⟨#[109, 97, 114, 107, 32]⟩ : ByteArray)) ++ ((rd_T34 l0_1 x4_1).f0)) ++ (⟨#[32]⟩ : ByteArray)) ++ t264).size + 1 ≤ 9223372036854775807 then (stylusref25_Show.l0 k1 (((((x3_1 ++ (⟨#[109, 97, 114, 107, 32]⟩ : ByteArray)) ++ ((rd_T34 l0_1 x4_1).f0)) ++ (⟨#[32]⟩ : ByteArray)) ++ t264) ++ (⟨#[10]⟩ : ByteArray)) (wrap64 (x4_1 + 1)) a0_0 l0_1 l0_2 l0_3 a0_4 l0_5) else (none)) else (none)) = some r := H
          have A11 := Aside0.mk A110
          clear A110
          by_cases c12 : (((x3_1 ++ (⟨#[109, 97, 114, 107, 32]⟩ : ByteArray)) ++ ((rd_T34 l0_1 x4_1).f0)) ++ (⟨#[32]⟩ : ByteArray)).size + t264.size ≤ 9223372036854775807
          ·rw [if_pos c12] at H
           have c12b0 := eq_true c12
           have c12b1 : decide ((((x3_1 ++ (⟨#[109, 97, 114, 107, 32]⟩ : ByteArray)) ++ ((rd_T34 l0_1 x4_1).f0)) ++ (⟨#[32]⟩ : ByteArray)).size + t264.size ≤ 9223372036854775807) = true := decide_eq_true c12
           try have c12b2 : (9223372036854775807 < (((x3_1 ++ (⟨#[109, 97, 114, 107, 32]⟩ : ByteArray)) ++ ((rd_T34 l0_1 x4_1).f0)) ++ (⟨#[32]⟩ : ByteArray)).size + t264.size) = False := eq_false (Nat.not_lt.2 c12)
           try have c12b3 : (9223372036854775807 < x3_1.size + 5 + ((rd_T34 l0_1 x4_1).f0).size + 1 + t264.size) = False := eq_false (by have h_ := c12; simp only [ByteArray.size_append] at h_; have hl0_ : ByteArray.size ⟨#[109, 97, 114, 107, 32]⟩ = 5 := rfl; have hl1_ : ByteArray.size ⟨#[32]⟩ = 1 := rfl; omega)
           by_cases c13 : ((((x3_1 ++ (⟨#[109, 97, 114, 107, 32]⟩ : ByteArray)) ++ ((rd_T34 l0_1 x4_1).f0)) ++ (⟨#[32]⟩ : ByteArray)) ++ t264).size + 1 ≤ 9223372036854775807
           ·rw [if_pos c13] at H
            have c13b0 := eq_true c13
            have c13b1 : decide (((((x3_1 ++ (⟨#[109, 97, 114, 107, 32]⟩ : ByteArray)) ++ ((rd_T34 l0_1 x4_1).f0)) ++ (⟨#[32]⟩ : ByteArray)) ++ t264).size + 1 ≤ 9223372036854775807) = true := decide_eq_true c13
            try have c13b2 : (9223372036854775807 < ((((x3_1 ++ (⟨#[109, 97, 114, 107, 32]⟩ : ByteArray)) ++ ((rd_T34 l0_1 x4_1).f0)) ++ (⟨#[32]⟩ : ByteArray)) ++ t264).size + 1) = False := eq_false (Nat.not_lt.2 c13)
            try have c13b3 : (9223372036854775807 < x3_1.size + 5 + ((rd_T34 l0_1 x4_1).f0).size + 1 + t264.size + 1) = False := eq_false (by have h_ := c13; simp only [ByteArray.size_append] at h_; have hl0_ : ByteArray.size ⟨#[109, 97, 114, 107, 32]⟩ = 5 := rfl; have hl1_ : ByteArray.size ⟨#[32]⟩ = 1 := rfl; omega)
            have H' := Aside0.mk H
            clear H
            have hcz14_0 : wr.cell? ⟨gb261, 0, none⟩ = some (.string a0_0) := (blk_cell BK261.out 0).trans rfl
            have hcz14_1 : wr.cell? ⟨gb261, 1, none⟩ = some (.slice A0_1 l0_1.length c0_1) := (blk_cell BK261.out 1).trans rfl
            have hcz14_2 : wr.cell? ⟨gb261, 2, none⟩ = some (.slice A0_2 l0_2.length c0_2) := (blk_cell BK261.out 2).trans rfl
            have hcz14_3 : wr.cell? ⟨gb261, 3, none⟩ = some (.slice A0_3 l0_3.length c0_3) := (blk_cell BK261.out 3).trans rfl
            have hcz14_4 : wr.cell? ⟨gb261, 4, none⟩ = some (.bool a0_4) := (blk_cell BK261.out 4).trans rfl
            have hcz14_5 : wr.cell? ⟨gb261, 5, none⟩ = some (.slice A0_5 l0_5.length c0_5) := (blk_cell BK261.out 5).trans rfl
            have hfz14_0 := blk_frozen BK261.out 0
            have hfz14_1 := blk_frozen BK261.out 1
            have hfz14_2 := blk_frozen BK261.out 2
            have hfz14_3 := blk_frozen BK261.out 3
            have hfz14_4 := blk_frozen BK261.out 4
            have hfz14_5 := blk_frozen BK261.out 5
            try go_wp2
            have n0_ := Aside0.mk (blk_drew BK261.out)
            have n1_ := Aside0.mk (below_drew1 HB.out)
            clear BK261
            clear HB
            have BK261 := n0_
            have HB := n1_
            clear n0_ n1_
            have p262 : 0 ≤ (x4_1 : Int) := of_decide_eq_true (by first | (with_reducible assumption) | assumption)
            have q262 : x4_1 < (l0_1.length : Int) := of_decide_eq_true (by first | (with_reducible assumption) | assumption)
            obtain ⟨ad262, e262, hx262_0, hx262_1⟩ := at_T34 HR0_1.out x4_1 p262 q262
            have hw262_1 := hx262_1
            have hw262_0 := hx262_0
            cases e262
            replace hx262_0 := (HB.out.cell (World.block_lt_of_cell? w _ hx262_0)).trans hx262_0
            replace hx262_1 := (HB.out.cell (World.block_lt_of_cell? w _ hx262_1)).trans hx262_1
            replace p262 := eq_true p262
            replace q262 := eq_true q262
            have p263 : 0 ≤ (x4_1 : Int) := of_decide_eq_true (by first | (with_reducible assumption) | assumption)
            have q263 : x4_1 < (l0_1.length : Int) := of_decide_eq_true (by first | (with_reducible assumption) | assumption)
            obtain ⟨ad263, e263, hx263_0, hx263_1⟩ := at_T34 HR0_1.out x4_1 p263 q263
            have hw263_1 := hx263_1
            have hw263_0 := hx263_0
            obtain rfl : ad262 = ad263 := (by injection e263)
            replace hx263_0 := (HB.out.cell (World.block_lt_of_cell? w _ hx263_0)).trans hx263_0
            replace hx263_1 := (HB.out.cell (World.block_lt_of_cell? w _ hx263_1)).trans hx263_1
            replace p263 := eq_true p263
            replace q263 := eq_true q263
            refine start_ (n := 20) (S := fun w' => w'.cell? ⟨gb261, 0, none⟩ = some (.string a0_0) ∧ w'.cell? ⟨gb261, 1, none⟩ = some (.slice (some ad262) l0_1.length c0_1) ∧ w'.cell? ⟨gb261, 2, none⟩ = some (.slice A0_2 l0_2.length c0_2) ∧ w'.cell? ⟨gb261, 3, none⟩ = some (.slice A0_3 l0_3.length c0_3) ∧ w'.cell? ⟨gb261, 4, none⟩ = some (.bool a0_4) ∧ w'.cell? ⟨gb261, 5, none⟩ = some (.slice A0_5 l0_5.length c0_5) ∧ w'.cell? (ad262.add ((x4_1).toNat * 2)) = some (.string ((rd_T34 l0_1 x4_1).f0)) ∧ w'.cell? ⟨(ad262.add ((x4_1).toNat * 2)).block, (ad262.add ((x4_1).toNat * 2)).off + 1, none⟩ = some (.int .i64 ((rd_T34 l0_1 x4_1).f1)) ∧ w'.cell? (ad262.add ((x4_1).toNat * 2)) = some (.string ((rd_T34 l0_1 x4_1).f0)) ∧ w'.cell? ⟨(ad262.add ((x4_1).toNat * 2)).block, (ad262.add ((x4_1).toNat * 2)).off + 1, none⟩ = some (.int .i64 ((rd_T34 l0_1 x4_1).f1))) (ds := []) #[false, false, false, false, false, false, false, false, false, false, false, false, false, false, false, false, false, false, false, false] (by kernel_rfl) rfl rfl ⟨(blk_cell BK261.out 0).trans rfl, (blk_cell BK261.out 1).trans rfl, (blk_cell BK261.out 2).trans rfl, (blk_cell BK261.out 3).trans rfl, (blk_cell BK261.out 4).trans rfl, (blk_cell BK261.out 5).trans rfl, ((HB.out.cell (World.block_lt_of_cell? w _ hw262_0)).trans hw262_0), ((HB.out.cell (World.block_lt_of_cell? w _ hw262_1)).trans hw262_1), ((HB.out.cell (World.block_lt_of_cell? w _ hw263_0)).trans hw263_0), ((HB.out.cell (World.block_lt_of_cell? w _ hw263_1)).trans hw263_1)⟩ (fun hHeld => ?_); refine with_tabW stylusref25_Show.tab5 stylusref25_Show.bits5 (fun HT_ HW_ => ?_)
            generalize wr.drew = w15 at BK261 HB hx262_0 hx262_1 hx263_0 hx263_1 hHeld ⊢
            refine pure_ (i := 0) (N := some 16) (v := ?_) (a' := ?_) #[true, false, false, false, false, false, false, false, false, false, false, false, false, false, false, false, false, false, false, false] rfl rfl (any_of HT_.out (by kernel_rfl)) (fun _ _ _ h => h) (Or.inl ⟨by rfl, ?_⟩) ?_ ?_
            rotate_left
            ·intro w'
             go_simp
             with_reducible rfl
            rotate_left
            ·simp only [Act.put, List.setIfInBounds_toArray, List.set_cons_zero, List.set_cons_succ, i64_w, i32_w]
             rfl
            refine pure_ (i := 1) (N := some 17) (v := ?_) (a' := ?_) #[true, true, false, false, false, false, false, false, false, false, false, false, false, false, false, false, false, false, false, false] rfl rfl (any_of HT_.out (by kernel_rfl)) (fun _ _ _ h => h) (Or.inl ⟨by rfl, ?_⟩) ?_ ?_
            rotate_left
            ·intro w'
             go_simp
             with_reducible rfl
            rotate_left
            ·simp only [Act.put, List.setIfInBounds_toArray, List.set_cons_zero, List.set_cons_succ, i64_w, i32_w]
             rfl
            refine pure_ (i := 2) (N := some 18) (v := ?_) (a' := ?_) #[true, true, true, false, false, false, false, false, false, false, false, false, false, false, false, false, false, false, false, false] rfl rfl (any_of HT_.out (by kernel_rfl)) (fun _ _ _ h => h) (Or.inl ⟨by rfl, ?_⟩) ?_ ?_
            rotate_left
            ·intro w'
             go_simp
             with_reducible rfl
            rotate_left
            ·simp only [Act.put, List.setIfInBounds_toArray, List.set_cons_zero, List.set_cons_succ, i64_w, i32_w]
             rfl
            refine pure_ (i := 4) (N := some 20) (v := ?_) (a' := ?_) #[true, true, true, false, true, false, false, false, false, false, false, false, false, false, false, false, false, false, false, false] rfl rfl (any_of HT_.out (by kernel_rfl)) (fun _ _ _ h => h) (Or.inl ⟨by rfl, ?_⟩) ?_ ?_
            rotate_left
            ·intro w'
             go_simp
             with_reducible rfl
            rotate_left
            ·simp only [Act.put, List.setIfInBounds_toArray, List.set_cons_zero, List.set_cons_succ, i64_w, i32_w]
             rfl
            refine pure_ (i := 10) (N := some 26) (v := ?_) (a' := ?_) #[true, true, true, false, true, false, false, false, false, false, true, false, false, false, false, false, false, false, false, false] rfl rfl (any_of HT_.out (by kernel_rfl)) (fun _ _ _ h => h) (Or.inl ⟨by rfl, ?_⟩) ?_ ?_
            rotate_left
            ·intro w'
             go_simp
             with_reducible rfl
            rotate_left
            ·simp only [Act.put, List.setIfInBounds_toArray, List.set_cons_zero, List.set_cons_succ, i64_w, i32_w]
             rfl
            refine pure_ (i := 12) (N := some 28) (v := ?_) (a' := ?_) #[true, true, true, false, true, false, false, false, false, false, true, false, true, false, false, false, false, false, false, false] rfl rfl (any_of HT_.out (by kernel_rfl)) (fun _ _ _ h => h) (Or.inl ⟨by rfl, ?_⟩) ?_ ?_
            rotate_left
            ·intro w'
             go_simp
             with_reducible rfl
            rotate_left
            ·simp only [Act.put, List.setIfInBounds_toArray, List.set_cons_zero, List.set_cons_succ, i64_w, i32_w]
             rfl
            refine take_ (i := 3) (N := some 19) (v := ?_) (a' := ?_) #[true, true, true, true, true, false, false, false, false, false, true, false, true, false, false, false, false, false, false, false] rfl rfl (take_ofW HT_.out HW_.out (by kernel_rfl)) (fun _ _ _ h => h) (Or.inl ⟨by rfl, ?_⟩) hHeld ?_ ?_
            rotate_left
            ·rintro w' ⟨s0, s1, s2, s3, s4, s5, s6, s7, s8, s9⟩
             go_simp
             with_reducible rfl
            rotate_left
            ·simp only [Act.put, List.setIfInBounds_toArray, List.set_cons_zero, List.set_cons_succ, i64_w, i32_w]
             rfl
            refine pure_ (i := 5) (N := some 21) (v := ?_) (a' := ?_) #[true, true, true, true, true, true, false, false, false, false, true, false, true, false, false, false, false, false, false, false] rfl rfl (any_of HT_.out (by kernel_rfl)) (fun _ _ _ h => h) (Or.inl ⟨by rfl, ?_⟩) ?_ ?_
            rotate_left
            ·intro w'
             go_simp
             with_reducible rfl
            rotate_left
            ·simp only [Act.put, List.setIfInBounds_toArray, List.set_cons_zero, List.set_cons_succ, i64_w, i32_w]
             rfl
            refine pure_ (i := 6) (N := some 22) (v := ?_) (a' := ?_) #[true, true, true, true, true, true, true, false, false, false, true, false, true, false, false, false, false, false, false, false] rfl rfl (any_of HT_.out (by kernel_rfl)) (fun _ _ _ h => h) (Or.inl ⟨by rfl, ?_⟩) ?_ ?_
            rotate_left
            ·intro w'
             go_simp
             with_reducible rfl
            rotate_left
            ·simp only [Act.put, List.setIfInBounds_toArray, List.set_cons_zero, List.set_cons_succ, i64_w, i32_w]
             rfl
            refine take_ (i := 7) (N := some 23) (v := ?_) (a' := ?_) #[true, true, true, true, true, true, true, true, false, false, true, false, true, false, false, false, false, false, false, false] rfl rfl (take_ofW HT_.out HW_.out (by kernel_rfl)) (fun _ _ _ h => h) (Or.inl ⟨by rfl, ?_⟩) hHeld ?_ ?_
            rotate_left
            ·rintro w' ⟨s0, s1, s2, s3, s4, s5, s6, s7, s8, s9⟩
             go_simp
             with_reducible rfl
            rotate_left
            ·simp only [Act.put, List.setIfInBounds_toArray, List.set_cons_zero, List.set_cons_succ, i64_w, i32_w]
             rfl
            refine pure_ (i := 8) (N := some 24) (v := ?_) (a' := ?_) #[true, true, true, true, true, true, true, true, true, false, true, false, true, false, false, false, false, false, false, false] rfl rfl (any_of HT_.out (by kernel_rfl)) (fun _ _ _ h => h) (Or.inl ⟨by rfl, ?_⟩) ?_ ?_
            rotate_left
            ·intro w'
             go_simp
             with_reducible rfl
            rotate_left
            ·simp only [Act.put, List.setIfInBounds_toArray, List.set_cons_zero, List.set_cons_succ, i64_w, i32_w]
             rfl
            refine pure_ (i := 9) (N := some 25) (v := ?_) (a' := ?_) #[true, true, true, true, true, true, true, true, true, true, true, false, true, false, false, false, false, false, false, false] rfl rfl (any_of HT_.out (by kernel_rfl)) (fun _ _ _ h => h) (Or.inl ⟨by rfl, ?_⟩) ?_ ?_
            rotate_left
            ·intro w'
             go_simp
             with_reducible rfl
            rotate_left
            ·simp only [Act.put, List.setIfInBounds_toArray, List.set_cons_zero, List.set_cons_succ, i64_w, i32_w]
             rfl
            refine take_ (i := 11) (N := some 27) (v := ?_) (a' := ?_) #[true, true, true, true, true, true, true, true, true, true, true, true, true, false, false, false, false, false, false, false] rfl rfl (take_ofW HT_.out HW_.out (by kernel_rfl)) (fun _ _ _ h => h) (Or.inl ⟨by rfl, ?_⟩) hHeld ?_ ?_
            rotate_left
            ·rintro w' ⟨s0, s1, s2, s3, s4, s5, s6, s7, s8, s9⟩
             go_simp
             with_reducible rfl
            rotate_left
            ·simp only [Act.put, List.setIfInBounds_toArray, List.set_cons_zero, List.set_cons_succ, i64_w, i32_w]
             rfl
            refine pure_ (i := 13) (N := some 29) (v := ?_) (a' := ?_) #[true, true, true, true, true, true, true, true, true, true, true, true, true, true, false, false, false, false, false, false] rfl rfl (any_of HT_.out (by kernel_rfl)) (fun _ _ _ h => h) (Or.inl ⟨by rfl, ?_⟩) ?_ ?_
            rotate_left
            ·intro w'
             go_simp
             with_reducible rfl
            rotate_left
            ·simp only [Act.put, List.setIfInBounds_toArray, List.set_cons_zero, List.set_cons_succ, i64_w, i32_w]
             rfl
            refine pure_ (i := 14) (N := some 30) (v := ?_) (a' := ?_) #[true, true, true, true, true, true, true, true, true, true, true, true, true, true, true, false, false, false, false, false] rfl rfl (any_of HT_.out (by kernel_rfl)) (fun _ _ _ h => h) (Or.inl ⟨by rfl, ?_⟩) ?_ ?_
            rotate_left
            ·intro w'
             go_simp
             with_reducible rfl
            rotate_left
            ·simp only [Act.put, List.setIfInBounds_toArray, List.set_cons_zero, List.set_cons_succ, i64_w, i32_w]
             rfl
            refine take_ (i := 15) (N := some 31) (v := ?_) (a' := ?_) #[true, true, true, true, true, true, true, true, true, true, true, true, true, true, true, true, false, false, false, false] rfl rfl (take_ofW HT_.out HW_.out (by kernel_rfl)) (fun _ _ _ h => h) (Or.inl ⟨by rfl, ?_⟩) hHeld ?_ ?_
            rotate_left
            ·rintro w' ⟨s0, s1, s2, s3, s4, s5, s6, s7, s8, s9⟩
             go_simp
             with_reducible rfl
            rotate_left
            ·simp only [Act.put, List.setIfInBounds_toArray, List.set_cons_zero, List.set_cons_succ, i64_w, i32_w]
             rfl
            refine one_ (i := 16) (N := some 32) #[true, true, true, true, true, true, true, true, true, true, true, true, true, true, true, true, true, false, false, false] rfl rfl (one_of HT_.out (by kernel_rfl)) (by decide) (fun K hK => ?_)
            refine goes_ Try.func39 (by kernel_rfl) rfl #[.int .i64 ((rd_T34 l0_1 x4_1).f1)] (by rfl) rfl rfl (by (try simp only [List.map_toArray, List.map_cons, List.map_nil]); first | done | rfl | (simp only [List.length_drop, List.length_take]; rfl)) ?_
            with_reducible refine (stylusref03_Plain.calls k1 ((rd_T34 l0_1 x4_1).f1) t264 _ A11.out).mono ?_
            rintro e w16 ⟨rfl, hb⟩
            refine ⟨_, rfl, ?_⟩
            have n0_ := Aside0.mk (blk_below (g := gb261) (o := .cells #[.string a0_0, .slice (some ad262) l0_1.length c0_1, .slice A0_2 l0_2.length c0_2, .slice A0_3 l0_3.length c0_3, .bool a0_4, .slice A0_5 l0_5.length c0_5] 26 (0, 0)) (by (with_reducible repeat (first | refine blk_drewN ?_ _ | refine blk_drew ?_ | refine blk_alloc ?_ _)); exact BK261.out) hb)
            have n1_ := Aside0.mk (below_step (by repeat (first | (with_reducible first | exact HB.out | apply below_alloc | apply pw_below_drewN | apply below_drew1 | refine below_set ?_ GE261.out) | exact HB.out)) hb)
            clear BK261
            clear HB
            have BK261 := n0_
            have HB := n1_
            clear n0_ n1_
            (try clear hb)
            (try clear hb2)
            (try clear hk)
            (try clear hi)
            refine hK.out _ _ ⟨(blk_cell BK261.out 0).trans rfl, (blk_cell BK261.out 1).trans rfl, (blk_cell BK261.out 2).trans rfl, (blk_cell BK261.out 3).trans rfl, (blk_cell BK261.out 4).trans rfl, (blk_cell BK261.out 5).trans rfl, ((HB.out.cell (World.block_lt_of_cell? w _ hw262_0)).trans hw262_0), ((HB.out.cell (World.block_lt_of_cell? w _ hw262_1)).trans hw262_1), ((HB.out.cell (World.block_lt_of_cell? w _ hw263_0)).trans hw263_0), ((HB.out.cell (World.block_lt_of_cell? w _ hw263_1)).trans hw263_1)⟩ (fun hHeld => ?_)
            clear hK K
            refine norm_ (a' := ?_) ?_ ?_
            rotate_left
            ·show Act.put _ (some 32) _ = _
             simp only [Act.put, List.setIfInBounds_toArray, List.set_cons_zero, List.set_cons_succ, i64_w, i32_w]
             rfl
            refine pure_ (i := 17) (N := some 33) (v := ?_) (a' := ?_) #[true, true, true, true, true, true, true, true, true, true, true, true, true, true, true, true, true, true, false, false] rfl rfl (any_of HT_.out (by kernel_rfl)) (fun _ _ _ h => h) (Or.inl ⟨by rfl, ?_⟩) ?_ ?_
            rotate_left
            ·intro w'
             go_simp
             with_reducible rfl
            rotate_left
            ·simp only [Act.put, List.setIfInBounds_toArray, List.set_cons_zero, List.set_cons_succ, i64_w, i32_w]
             rfl
            refine pure_ (i := 18) (N := some 34) (v := ?_) (a' := ?_) #[true, true, true, true, true, true, true, true, true, true, true, true, true, true, true, true, true, true, true, false] rfl rfl (any_of HT_.out (by kernel_rfl)) (fun _ _ _ h => h) (Or.inl ⟨by rfl, ?_⟩) ?_ ?_
            rotate_left
            ·intro w'
             go_simp
             with_reducible rfl
            rotate_left
            ·simp only [Act.put, List.setIfInBounds_toArray, List.set_cons_zero, List.set_cons_succ, i64_w, i32_w]
             rfl
            refine pure_ (i := 19) (N := some 3) (v := ?_) (a' := ?_) #[true, true, true, true, true, true, true, true, true, true, true, true, true, true, true, true, true, true, true, true] rfl rfl (any_of HT_.out (by kernel_rfl)) (fun _ _ _ h => h) (Or.inl ⟨by rfl, ?_⟩) ?_ ?_
            rotate_left
            ·intro w'
             go_simp
             with_reducible rfl
            rotate_left
            ·simp only [Act.put, List.setIfInBounds_toArray, List.set_cons_zero, List.set_cons_succ, i64_w, i32_w]
             rfl
            refine done_ (done_of HT_.out (by kernel_rfl)) ?_
            try go_wp2
            go_roundg k1
            case measure => have := HK1.out; omega
            case rel => exact ⟨(((((x3_1 ++ (⟨#[109, 97, 114, 107, 32]⟩ : ByteArray)) ++ ((rd_T34 l0_1 x4_1).f0)) ++ (⟨#[32]⟩ : ByteArray)) ++ t264) ++ (⟨#[10]⟩ : ByteArray)), (wrap64 (x4_1 + 1)), (by first | rfl | (simp; done) | (simp [*]; done)), (by first | rfl | (simp; done) | (simp [*]; done)), H', ⟨by have := HK1.out; omega⟩, ⟨by (with_reducible repeat (first | refine blk_drewN ?_ _ | refine blk_drew ?_ | refine blk_alloc ?_ _)); exact BK261.out⟩, ⟨by repeat (first | (with_reducible first | exact HB.out | apply below_alloc | apply pw_below_drewN | apply below_drew1 | refine below_set ?_ GE261.out) | exact HB.out)⟩⟩
           ·rw [if_neg c13] at H
            exact absurd H (by simp)
          ·rw [if_neg c12] at H
           exact absurd H (by simp)
         ·rw [if_neg c10] at H
          exact absurd H (by simp)
        ·rw [if_neg c9] at H
         exact absurd H (by simp)
       ·rw [if_neg c8] at H
        exact absurd H (by simp)
      ·rw [if_neg c7] at H
       exact absurd H (by simp)
     ·rw [if_neg c6] at H
      have c6b0 : decide (x4_1 < (l0_1.length : Int)) = false := decide_eq_false c6
      clear c6
      by_cases c17 : x3_1.size + 5 ≤ 9223372036854775807
      ·rw [if_pos c17] at H
       have c17b0 := eq_true c17
       have c17b1 : decide (x3_1.size + 5 ≤ 9223372036854775807) = true := decide_eq_true c17
       try have c17b2 : (9223372036854775807 < x3_1.size + 5) = False := eq_false (Nat.not_lt.2 c17)
       replace H := Option.bind_eq_some_iff.mp H
       obtain ⟨t265, A180, H⟩ := H
       replace H : (if (x3_1 ++ (⟨#[117, 110, 100, 111, 32]⟩ : ByteArray)).size + t265.size ≤ 9223372036854775807 then (if ((x3_1 ++ (⟨#[117, 110, 100, 111, 32]⟩ : ByteArray)) ++ t265).size + 6 ≤ 9223372036854775807 then ((stylusref03_Plain.f k1 (l0_3.length : Int)).bind fun t266 => (if (((x3_1 ++ (⟨#[117, 110, 100, 111, 32]⟩ : ByteArray)) ++ t265) ++ (⟨#[10, 114, 101, 100, 111, 32]⟩ : ByteArray)).size + t266.size ≤ 9223372036854775807 then (if ((((x3_1 ++ (⟨#[117, 110, 100, 111, 32]⟩ : ByteArray)) ++ t265) ++ (⟨#[10, 114, 101, 100, 111, 32]⟩ : ByteArray)) ++ t266).size + 1 ≤ 9223372036854775807 then (if a0_4 = true then (if (((((x3_1 ++ (⟨#[117, 110, 100, 111, 32]⟩ : ByteArray)) ++ t265) ++ (⟨#[10, 114, 101, 100, 111, 32]⟩ : ByteArray)) ++ t266) ++ (⟨#[10]⟩ : ByteArray)).size + 5 ≤ 9223372036854775807 then ((stylusref03_Plain.f k1 (l0_5.length : Int)).bind fun t267 => (if ((((((x3_1 ++ (⟨#[117, 110, 100, 111, 32]⟩ : ByteArray)) ++ t265) ++ (⟨#[10, 114, 101, 100, 111, 32]⟩ : ByteArray)) ++ t266) ++ (⟨#[10]⟩ : ByteArray)) ++ (⟨#[111, 112, 101, 110, 32]⟩ : ByteArray)).size + t267.size ≤ 9223372036854775807 then (if (((((((x3_1 ++ (⟨#[117, 110, 100, 111, 32]⟩ : ByteArray)) ++ t265) ++ (⟨#[10, 114, 101, 100, 111, 32]⟩ : ByteArray)) ++ t266) ++ (⟨#[10]⟩ : ByteArray)) ++ (⟨#[111, 112, 101, 110, 32]⟩ : ByteArray)) ++ t267).size + 1 ≤ 9223372036854775807 then (some ((((((((x3_1 ++ (⟨#[117, 110, 100, 111, 32]⟩ : ByteArray)) ++ t265) ++ (⟨#[10, 114, 101, 100, 111, 32]⟩ : ByteArray)) ++ t266) ++ (⟨#[10]⟩ : ByteArray)) ++ (⟨#[111, 112, 101, 110, 32]⟩ : ByteArray)) ++ t267) ++ (⟨#[10]⟩ : ByteArray))) else (none)) else (none))) else (none)) else (some (((((x3_1 ++ (⟨#[117, 110, 100, 111, 32]⟩ : ByteArray)) ++ t265) ++ (⟨#[10, 114, 101, 100, 111, 32]⟩ : ByteArray)) ++ t266) ++ (⟨#[10]⟩ : ByteArray)))) else (none)) else (none))) else (none)) else (none)) = some r := H
       have A18 := Aside0.mk A180
       clear A180
       by_cases c19 : (x3_1 ++ (⟨#[117, 110, 100, 111, 32]⟩ : ByteArray)).size + t265.size ≤ 9223372036854775807
       ·rw [if_pos c19] at H
        have c19b0 := eq_true c19
        have c19b1 : decide ((x3_1 ++ (⟨#[117, 110, 100, 111, 32]⟩ : ByteArray)).size + t265.size ≤ 9223372036854775807) = true := decide_eq_true c19
        try have c19b2 : (9223372036854775807 < (x3_1 ++ (⟨#[117, 110, 100, 111, 32]⟩ : ByteArray)).size + t265.size) = False := eq_false (Nat.not_lt.2 c19)
        try have c19b3 : (9223372036854775807 < x3_1.size + 5 + t265.size) = False := eq_false (by have h_ := c19; simp only [ByteArray.size_append] at h_; have hl0_ : ByteArray.size ⟨#[117, 110, 100, 111, 32]⟩ = 5 := rfl; omega)
        by_cases c20 : ((x3_1 ++ (⟨#[117, 110, 100, 111, 32]⟩ : ByteArray)) ++ t265).size + 6 ≤ 9223372036854775807
        ·rw [if_pos c20] at H
         have c20b0 := eq_true c20
         have c20b1 : decide (((x3_1 ++ (⟨#[117, 110, 100, 111, 32]⟩ : ByteArray)) ++ t265).size + 6 ≤ 9223372036854775807) = true := decide_eq_true c20
         try have c20b2 : (9223372036854775807 < ((x3_1 ++ (⟨#[117, 110, 100, 111, 32]⟩ : ByteArray)) ++ t265).size + 6) = False := eq_false (Nat.not_lt.2 c20)
         try have c20b3 : (9223372036854775807 < x3_1.size + 5 + t265.size + 6) = False := eq_false (by have h_ := c20; simp only [ByteArray.size_append] at h_; have hl0_ : ByteArray.size ⟨#[117, 110, 100, 111, 32]⟩ = 5 := rfl; omega)
         replace H := Option.bind_eq_some_iff.mp H
         obtain ⟨t266, A210, H⟩ := H
         replace H : (if (((x3_1 ++ (⟨#[117, 110, 100, 111, 32]⟩ : ByteArray)) ++ t265) ++ (⟨#[10, 114, 101, 100, 111, 32]⟩ : ByteArray)).size + t266.size ≤ 9223372036854775807 then (if ((((x3_1 ++ (⟨#[117, 110, 100, 111, 32]⟩ : ByteArray)) ++ t265) ++ (⟨#[10, 114, 101, 100, 111, 32]⟩ : ByteArray)) ++ t266).size + 1 ≤ 9223372036854775807 then (if a0_4 = true then (if (((((x3_1 ++ (⟨#[117, 110, 100, 111, 32]⟩ : ByteArray)) ++ t265) ++ (⟨#[10, 114, 101, 100, 111, 32]⟩ : ByteArray)) ++ t266) ++ (⟨#[10]⟩ : ByteArray)).size + 5 ≤ 9223372036854775807 then ((stylusref03_Plain.f k1 (l0_5.length : Int)).bind fun t267 => (if ((((((x3_1 ++ (⟨#[117, 110, 100, 111, 32]⟩ : ByteArray)) ++ t265) ++ (⟨#[10, 114, 101, 100, 111, 32]⟩ : ByteArray)) ++ t266) ++ (⟨#[10]⟩ : ByteArray)) ++ (⟨#[111, 112, 101, 110, 32]⟩ : ByteArray)).size + t267.size ≤ 9223372036854775807 then (if (((((((x3_1 ++ (⟨#[117, 110, 100, 111, 32]⟩ : ByteArray)) ++ t265) ++ (⟨#[10, 114, 101, 100, 111, 32]⟩ : ByteArray)) ++ t266) ++ (⟨#[10]⟩ : ByteArray)) ++ (⟨#[111, 112, 101, 110, 32]⟩ : ByteArray)) ++ t267).size + 1 ≤ 9223372036854775807 then (some ((((((((x3_1 ++ (⟨#[117, 110, 100, 111, 32]⟩ : ByteArray)) ++ t265) ++ (⟨#[10, 114, 101, 100, 111, 32]⟩ : ByteArray)) ++ t266) ++ (⟨#[10]⟩ : ByteArray)) ++ (⟨#[111, 112, 101, 110, 32]⟩ : ByteArray)) ++ t267) ++ (⟨#[10]⟩ : ByteArray))) else (none)) else (none))) else (none)) else (some (((((x3_1 ++ (⟨#[117, 110, 100, 111, 32]⟩ : ByteArray)) ++ t265) ++ (⟨#[10, 114, 101, 100, 111, 32]⟩ : ByteArray)) ++ t266) ++ (⟨#[10]⟩ : ByteArray)))) else (none)) else (none)) = some r := H
         have A21 := Aside0.mk A210
         clear A210
         by_cases c22 : (((x3_1 ++ (⟨#[117, 110, 100, 111, 32]⟩ : ByteArray)) ++ t265) ++ (⟨#[10, 114, 101, 100, 111, 32]⟩ : ByteArray)).size + t266.size ≤ 9223372036854775807
         ·rw [if_pos c22] at H
          have c22b0 := eq_true c22
          have c22b1 : decide ((((x3_1 ++ (⟨#[117, 110, 100, 111, 32]⟩ : ByteArray)) ++ t265) ++ (⟨#[10, 114, 101, 100, 111, 32]⟩ : ByteArray)).size + t266.size ≤ 9223372036854775807) = true := decide_eq_true c22
          try have c22b2 : (9223372036854775807 < (((x3_1 ++ (⟨#[117, 110, 100, 111, 32]⟩ : ByteArray)) ++ t265) ++ (⟨#[10, 114, 101, 100, 111, 32]⟩ : ByteArray)).size + t266.size) = False := eq_false (Nat.not_lt.2 c22)
          try have c22b3 : (9223372036854775807 < x3_1.size + 5 + t265.size + 6 + t266.size) = False := eq_false (by have h_ := c22; simp only [ByteArray.size_append] at h_; have hl0_ : ByteArray.size ⟨#[117, 110, 100, 111, 32]⟩ = 5 := rfl; have hl1_ : ByteArray.size ⟨#[10, 114, 101, 100, 111, 32]⟩ = 6 := rfl; omega)
          by_cases c23 : ((((x3_1 ++ (⟨#[117, 110, 100, 111, 32]⟩ : ByteArray)) ++ t265) ++ (⟨#[10, 114, 101, 100, 111, 32]⟩ : ByteArray)) ++ t266).size + 1 ≤ 9223372036854775807
          ·rw [if_pos c23] at H
           have c23b0 := eq_true c23
           have c23b1 : decide (((((x3_1 ++ (⟨#[117, 110, 100, 111, 32]⟩ : ByteArray)) ++ t265) ++ (⟨#[10, 114, 101, 100, 111, 32]⟩ : ByteArray)) ++ t266).size + 1 ≤ 9223372036854775807) = true := decide_eq_true c23
           try have c23b2 : (9223372036854775807 < ((((x3_1 ++ (⟨#[117, 110, 100, 111, 32]⟩ : ByteArray)) ++ t265) ++ (⟨#[10, 114, 101, 100, 111, 32]⟩ : ByteArray)) ++ t266).size + 1) = False := eq_false (Nat.not_lt.2 c23)
           try have c23b3 : (9223372036854775807 < x3_1.size + 5 + t265.size + 6 + t266.size + 1) = False := eq_false (by have h_ := c23; simp only [ByteArray.size_append] at h_; have hl0_ : ByteArray.size ⟨#[117, 110, 100, 111, 32]⟩ = 5 := rfl; have hl1_ : ByteArray.size ⟨#[10, 114, 101, 100, 111, 32]⟩ = 6 := rfl; omega)
           by_cases c24 : a0_4 = true
           ·subst c24
            have H1 : (if (((((x3_1 ++ (⟨#[117, 110, 100, 111, 32]⟩ : ByteArray)) ++ t265) ++ (⟨#[10, 114, 101, 100, 111, 32]⟩ : ByteArray)) ++ t266) ++ (⟨#[10]⟩ : ByteArray)).size + 5 ≤ 9223372036854775807 then ((stylusref03_Plain.f k1 (l0_5.length : Int)).bind fun t267 => (if ((((((x3_1 ++ (⟨#[117, 110, 100, 111, 32]⟩ : ByteArray)) ++ t265) ++ (⟨#[10, 114, 101, 100, 111, 32]⟩ : ByteArray)) ++ t266) ++ (⟨#[10]⟩ : ByteArray)) ++ (⟨#[111, 112, 101, 110, 32]⟩ : ByteArray)).size + t267.size ≤ 9223372036854775807 then (if (((((((x3_1 ++ (⟨#[117, 110, 100, 111, 32]⟩ : ByteArray)) ++ t265) ++ (⟨#[10, 114, 101, 100, 111, 32]⟩ : ByteArray)) ++ t266) ++ (⟨#[10]⟩ : ByteArray)) ++ (⟨#[111, 112, 101, 110, 32]⟩ : ByteArray)) ++ t267).size + 1 ≤ 9223372036854775807 then (some ((((((((x3_1 ++ (⟨#[117, 110, 100, 111, 32]⟩ : ByteArray)) ++ t265) ++ (⟨#[10, 114, 101, 100, 111, 32]⟩ : ByteArray)) ++ t266) ++ (⟨#[10]⟩ : ByteArray)) ++ (⟨#[111, 112, 101, 110, 32]⟩ : ByteArray)) ++ t267) ++ (⟨#[10]⟩ : ByteArray))) else (none)) else (none))) else (none)) = some r := by rw [if_pos rfl] at H; exact H
            clear H
            have H := H1
            clear H1
            by_cases c25 : (((((x3_1 ++ (⟨#[117, 110, 100, 111, 32]⟩ : ByteArray)) ++ t265) ++ (⟨#[10, 114, 101, 100, 111, 32]⟩ : ByteArray)) ++ t266) ++ (⟨#[10]⟩ : ByteArray)).size + 5 ≤ 9223372036854775807
            ·rw [if_pos c25] at H
             have c25b0 := eq_true c25
             have c25b1 : decide ((((((x3_1 ++ (⟨#[117, 110, 100, 111, 32]⟩ : ByteArray)) ++ t265) ++ (⟨#[10, 114, 101, 100, 111, 32]⟩ : ByteArray)) ++ t266) ++ (⟨#[10]⟩ : ByteArray)).size + 5 ≤ 9223372036854775807) = true := decide_eq_true c25
             try have c25b2 : (9223372036854775807 < (((((x3_1 ++ (⟨#[117, 110, 100, 111, 32]⟩ : ByteArray)) ++ t265) ++ (⟨#[10, 114, 101, 100, 111, 32]⟩ : ByteArray)) ++ t266) ++ (⟨#[10]⟩ : ByteArray)).size + 5) = False := eq_false (Nat.not_lt.2 c25)
             try have c25b3 : (9223372036854775807 < x3_1.size + 5 + t265.size + 6 + t266.size + 1 + 5) = False := eq_false (by have h_ := c25; simp only [ByteArray.size_append] at h_; have hl0_ : ByteArray.size ⟨#[117, 110, 100, 111, 32]⟩ = 5 := rfl; have hl1_ : ByteArray.size ⟨#[10, 114, 101, 100, 111, 32]⟩ = 6 := rfl; have hl2_ : ByteArray.size ⟨#[10]⟩ = 1 := rfl; omega)
             replace H := Option.bind_eq_some_iff.mp H
             obtain ⟨t267, A260, H⟩ := H
             replace H : (if ((((((x3_1 ++ (⟨#[117, 110, 100, 111, 32]⟩ : ByteArray)) ++ t265) ++ (⟨#[10, 114, 101, 100, 111, 32]⟩ : ByteArray)) ++ t266) ++ (⟨#[10]⟩ : ByteArray)) ++ (⟨#[111, 112, 101, 110, 32]⟩ : ByteArray)).size + t267.size ≤ 9223372036854775807 then (if (((((((x3_1 ++ (⟨#[117, 110, 100, 111, 32]⟩ : ByteArray)) ++ t265) ++ (⟨#[10, 114, 101, 100, 111, 32]⟩ : ByteArray)) ++ t266) ++ (⟨#[10]⟩ : ByteArray)) ++ (⟨#[111, 112, 101, 110, 32]⟩ : ByteArray)) ++ t267).size + 1 ≤ 9223372036854775807 then (some ((((((((x3_1 ++ (⟨#[117, 110, 100, 111, 32]⟩ : ByteArray)) ++ t265) ++ (⟨#[10, 114, 101, 100, 111, 32]⟩ : ByteArray)) ++ t266) ++ (⟨#[10]⟩ : ByteArray)) ++ (⟨#[111, 112, 101, 110, 32]⟩ : ByteArray)) ++ t267) ++ (⟨#[10]⟩ : ByteArray))) else (none)) else (none)) = some r := H
             have A26 := Aside0.mk A260
             clear A260
             by_cases c27 : ((((((x3_1 ++ (⟨#[117, 110, 100, 111, 32]⟩ : ByteArray)) ++ t265) ++ (⟨#[10, 114, 101, 100, 111, 32]⟩ : ByteArray)) ++ t266) ++ (⟨#[10]⟩ : ByteArray)) ++ (⟨#[111, 112, 101, 110, 32]⟩ : ByteArray)).size + t267.size ≤ 9223372036854775807
             ·rw [if_pos c27] at H
              have c27b0 := eq_true c27
              have c27b1 : decide (((((((x3_1 ++ (⟨#[117, 110, 100, 111, 32]⟩ : ByteArray)) ++ t265) ++ (⟨#[10, 114, 101, 100, 111, 32]⟩ : ByteArray)) ++ t266) ++ (⟨#[10]⟩ : ByteArray)) ++ (⟨#[111, 112, 101, 110, 32]⟩ : ByteArray)).size + t267.size ≤ 9223372036854775807) = true := decide_eq_true c27
              try have c27b2 : (9223372036854775807 < ((((((x3_1 ++ (⟨#[117, 110, 100, 111, 32]⟩ : ByteArray)) ++ t265) ++ (⟨#[10, 114, 101, 100, 111, 32]⟩ : ByteArray)) ++ t266) ++ (⟨#[10]⟩ : ByteArray)) ++ (⟨#[111, 112, 101, 110, 32]⟩ : ByteArray)).size + t267.size) = False := eq_false (Nat.not_lt.2 c27)
              try have c27b3 : (9223372036854775807 < x3_1.size + 5 + t265.size + 6 + t266.size + 1 + 5 + t267.size) = False := eq_false (by have h_ := c27; simp only [ByteArray.size_append] at h_; have hl0_ : ByteArray.size ⟨#[117, 110, 100, 111, 32]⟩ = 5 := rfl; have hl1_ : ByteArray.size ⟨#[10, 114, 101, 100, 111, 32]⟩ = 6 := rfl; have hl2_ : ByteArray.size ⟨#[10]⟩ = 1 := rfl; have hl3_ : ByteArray.size ⟨#[111, 112, 101, 110, 32]⟩ = 5 := rfl; omega)
              by_cases c28 : (((((((x3_1 ++ (⟨#[117, 110, 100, 111, 32]⟩ : ByteArray)) ++ t265) ++ (⟨#[10, 114, 101, 100, 111, 32]⟩ : ByteArray)) ++ t266) ++ (⟨#[10]⟩ : ByteArray)) ++ (⟨#[111, 112, 101, 110, 32]⟩ : ByteArray)) ++ t267).size + 1 ≤ 9223372036854775807
              ·rw [if_pos c28] at H
               have c28b0 := eq_true c28
               have c28b1 : decide ((((((((x3_1 ++ (⟨#[117, 110, 100, 111, 32]⟩ : ByteArray)) ++ t265) ++ (⟨#[10, 114, 101, 100, 111, 32]⟩ : ByteArray)) ++ t266) ++ (⟨#[10]⟩ : ByteArray)) ++ (⟨#[111, 112, 101, 110, 32]⟩ : ByteArray)) ++ t267).size + 1 ≤ 9223372036854775807) = true := decide_eq_true c28
               try have c28b2 : (9223372036854775807 < (((((((x3_1 ++ (⟨#[117, 110, 100, 111, 32]⟩ : ByteArray)) ++ t265) ++ (⟨#[10, 114, 101, 100, 111, 32]⟩ : ByteArray)) ++ t266) ++ (⟨#[10]⟩ : ByteArray)) ++ (⟨#[111, 112, 101, 110, 32]⟩ : ByteArray)) ++ t267).size + 1) = False := eq_false (Nat.not_lt.2 c28)
               try have c28b3 : (9223372036854775807 < x3_1.size + 5 + t265.size + 6 + t266.size + 1 + 5 + t267.size + 1) = False := eq_false (by have h_ := c28; simp only [ByteArray.size_append] at h_; have hl0_ : ByteArray.size ⟨#[117, 110, 100, 111, 32]⟩ = 5 := rfl; have hl1_ : ByteArray.size ⟨#[10, 114, 101, 100, 111, 32]⟩ = 6 := rfl; have hl2_ : ByteArray.size ⟨#[10]⟩ = 1 := rfl; have hl3_ : ByteArray.size ⟨#[111, 112, 101, 110, 32]⟩ = 5 := rfl; omega)
               obtain rfl := Option.some.inj H
               have hcz29_0 : wr.cell? ⟨gb261, 0, none⟩ = some (.string a0_0) := (blk_cell BK261.out 0).trans rfl
               have hcz29_1 : wr.cell? ⟨gb261, 1, none⟩ = some (.slice A0_1 l0_1.length c0_1) := (blk_cell BK261.out 1).trans rfl
               have hcz29_2 : wr.cell? ⟨gb261, 2, none⟩ = some (.slice A0_2 l0_2.length c0_2) := (blk_cell BK261.out 2).trans rfl
               have hcz29_3 : wr.cell? ⟨gb261, 3, none⟩ = some (.slice A0_3 l0_3.length c0_3) := (blk_cell BK261.out 3).trans rfl
               have hcz29_4 : wr.cell? ⟨gb261, 4, none⟩ = some (.bool true) := (blk_cell BK261.out 4).trans rfl
               have hcz29_5 : wr.cell? ⟨gb261, 5, none⟩ = some (.slice A0_5 l0_5.length c0_5) := (blk_cell BK261.out 5).trans rfl
               have hfz29_0 := blk_frozen BK261.out 0
               have hfz29_1 := blk_frozen BK261.out 1
               have hfz29_2 := blk_frozen BK261.out 2
               have hfz29_3 := blk_frozen BK261.out 3
               have hfz29_4 := blk_frozen BK261.out 4
               have hfz29_5 := blk_frozen BK261.out 5
               try go_wp2
               have n0_ := Aside0.mk (blk_drew BK261.out)
               have n1_ := Aside0.mk (below_drew1 HB.out)
               clear BK261
               clear HB
               have BK261 := n0_
               have HB := n1_
               clear n0_ n1_
               refine start_ (n := 15) (S := fun w' => w'.cell? ⟨gb261, 0, none⟩ = some (.string a0_0) ∧ w'.cell? ⟨gb261, 1, none⟩ = some (.slice A0_1 l0_1.length c0_1) ∧ w'.cell? ⟨gb261, 2, none⟩ = some (.slice A0_2 l0_2.length c0_2) ∧ w'.cell? ⟨gb261, 3, none⟩ = some (.slice A0_3 l0_3.length c0_3) ∧ w'.cell? ⟨gb261, 4, none⟩ = some (.bool true) ∧ w'.cell? ⟨gb261, 5, none⟩ = some (.slice A0_5 l0_5.length c0_5)) (ds := []) #[false, false, false, false, false, false, false, false, false, false, false, false, false, false, false] (by kernel_rfl) rfl rfl ⟨(blk_cell BK261.out 0).trans rfl, (blk_cell BK261.out 1).trans rfl, (blk_cell BK261.out 2).trans rfl, (blk_cell BK261.out 3).trans rfl, (blk_cell BK261.out 4).trans rfl, (blk_cell BK261.out 5).trans rfl⟩ (fun hHeld => ?_); refine with_tabW stylusref25_Show.tab6 stylusref25_Show.bits6 (fun HT_ HW_ => ?_)
               generalize wr.drew = w30 at BK261 HB hHeld ⊢
               refine pure_ (i := 0) (N := some 35) (v := ?_) (a' := ?_) #[true, false, false, false, false, false, false, false, false, false, false, false, false, false, false] rfl rfl (any_of HT_.out (by kernel_rfl)) (fun _ _ _ h => h) (Or.inl ⟨by rfl, ?_⟩) ?_ ?_
               rotate_left
               ·intro w'
                go_simp
                with_reducible rfl
               rotate_left
               ·simp only [Act.put, List.setIfInBounds_toArray, List.set_cons_zero, List.set_cons_succ, i64_w, i32_w]
                rfl
               refine pure_ (i := 1) (N := some 36) (v := ?_) (a' := ?_) #[true, true, false, false, false, false, false, false, false, false, false, false, false, false, false] rfl rfl (any_of HT_.out (by kernel_rfl)) (fun _ _ _ h => h) (Or.inl ⟨by rfl, ?_⟩) ?_ ?_
               rotate_left
               ·intro w'
                go_simp
                with_reducible rfl
               rotate_left
               ·simp only [Act.put, List.setIfInBounds_toArray, List.set_cons_zero, List.set_cons_succ, i64_w, i32_w]
                rfl
               refine pure_ (i := 2) (N := some 37) (v := ?_) (a' := ?_) #[true, true, true, false, false, false, false, false, false, false, false, false, false, false, false] rfl rfl (any_of HT_.out (by kernel_rfl)) (fun _ _ _ h => h) (Or.inl ⟨by rfl, ?_⟩) ?_ ?_
               rotate_left
               ·intro w'
                go_simp
                with_reducible rfl
               rotate_left
               ·simp only [Act.put, List.setIfInBounds_toArray, List.set_cons_zero, List.set_cons_succ, i64_w, i32_w]
                rfl
               refine pure_ (i := 8) (N := some 43) (v := ?_) (a' := ?_) #[true, true, true, false, false, false, false, false, true, false, false, false, false, false, false] rfl rfl (any_of HT_.out (by kernel_rfl)) (fun _ _ _ h => h) (Or.inl ⟨by rfl, ?_⟩) ?_ ?_
               rotate_left
               ·intro w'
                go_simp
                with_reducible rfl
               rotate_left
               ·simp only [Act.put, List.setIfInBounds_toArray, List.set_cons_zero, List.set_cons_succ, i64_w, i32_w]
                rfl
               refine take_ (i := 3) (N := some 38) (v := ?_) (a' := ?_) #[true, true, true, true, false, false, false, false, true, false, false, false, false, false, false] rfl rfl (take_ofW HT_.out HW_.out (by kernel_rfl)) (fun _ _ _ h => h) (Or.inl ⟨by rfl, ?_⟩) hHeld ?_ ?_
               rotate_left
               ·rintro w' ⟨s0, s1, s2, s3, s4, s5⟩
                go_simp
                with_reducible rfl
               rotate_left
               ·simp only [Act.put, List.setIfInBounds_toArray, List.set_cons_zero, List.set_cons_succ, i64_w, i32_w]
                rfl
               refine pure_ (i := 4) (N := some 39) (v := ?_) (a' := ?_) #[true, true, true, true, true, false, false, false, true, false, false, false, false, false, false] rfl rfl (any_of HT_.out (by kernel_rfl)) (fun _ _ _ h => h) (Or.inl ⟨by rfl, ?_⟩) ?_ ?_
               rotate_left
               ·intro w'
                go_simp
                with_reducible rfl
               rotate_left
               ·simp only [Act.put, List.setIfInBounds_toArray, List.set_cons_zero, List.set_cons_succ, i64_w, i32_w]
                rfl
               refine take_ (i := 9) (N := some 44) (v := ?_) (a' := ?_) #[true, true, true, true, true, false, false, false, true, true, false, false, false, false, false] rfl rfl (take_ofW HT_.out HW_.out (by kernel_rfl)) (fun _ _ _ h => h) (Or.inl ⟨by rfl, ?_⟩) hHeld ?_ ?_
               rotate_left
               ·rintro w' ⟨s0, s1, s2, s3, s4, s5⟩
                go_simp
                with_reducible rfl
               rotate_left
               ·simp only [Act.put, List.setIfInBounds_toArray, List.set_cons_zero, List.set_cons_succ, i64_w, i32_w]
                rfl
               refine pure_ (i := 10) (N := some 45) (v := ?_) (a' := ?_) #[true, true, true, true, true, false, false, false, true, true, true, false, false, false, false] rfl rfl (any_of HT_.out (by kernel_rfl)) (fun _ _ _ h => h) (Or.inl ⟨by rfl, ?_⟩) ?_ ?_
               rotate_left
               ·intro w'
                go_simp
                with_reducible rfl
               rotate_left
               ·simp only [Act.put, List.setIfInBounds_toArray, List.set_cons_zero, List.set_cons_succ, i64_w, i32_w]
                rfl
               refine one_ (i := 5) (N := some 40) #[true, true, true, true, true, true, false, false, true, true, true, false, false, false, false] rfl rfl (one_of HT_.out (by kernel_rfl)) (by decide) (fun K hK => ?_)
               refine goes_ Try.func39 (by kernel_rfl) rfl #[.int .i64 (l0_2.length : Int)] (by rfl) rfl rfl (by (try simp only [List.map_toArray, List.map_cons, List.map_nil]); first | done | rfl | (simp only [List.length_drop, List.length_take]; rfl)) ?_
               with_reducible refine (stylusref03_Plain.calls k1 (l0_2.length : Int) t265 _ A18.out).mono ?_
               rintro e w31 ⟨rfl, hb⟩
               refine ⟨_, rfl, ?_⟩
               have n0_ := Aside0.mk (blk_below (g := gb261) (o := .cells #[.string a0_0, .slice A0_1 l0_1.length c0_1, .slice A0_2 l0_2.length c0_2, .slice A0_3 l0_3.length c0_3, .bool true, .slice A0_5 l0_5.length c0_5] 26 (0, 0)) (by (with_reducible repeat (first | refine blk_drewN ?_ _ | refine blk_drew ?_ | refine blk_alloc ?_ _)); exact BK261.out) hb)
               have n1_ := Aside0.mk (below_step (by repeat (first | (with_reducible first | exact HB.out | apply below_alloc | apply pw_below_drewN | apply below_drew1 | refine below_set ?_ GE261.out) | exact HB.out)) hb)
               clear BK261
               clear HB
               have BK261 := n0_
               have HB := n1_
               clear n0_ n1_
               (try clear hb)
               (try clear hb2)
               (try clear hk)
               (try clear hi)
               refine hK.out _ _ ⟨(blk_cell BK261.out 0).trans rfl, (blk_cell BK261.out 1).trans rfl, (blk_cell BK261.out 2).trans rfl, (blk_cell BK261.out 3).trans rfl, (blk_cell BK261.out 4).trans rfl, (blk_cell BK261.out 5).trans rfl⟩ (fun hHeld => ?_)
               clear hK K
               refine norm_ (a' := ?_) ?_ ?_
               rotate_left
               ·show Act.put _ (some 40) _ = _
                simp only [Act.put, List.setIfInBounds_toArray, List.set_cons_zero, List.set_cons_succ, i64_w, i32_w]
                rfl
               refine pure_ (i := 6) (N := some 41) (v := ?_) (a' := ?_) #[true, true, true, true, true, true, true, false, true, true, true, false, false, false, false] rfl rfl (any_of HT_.out (by kernel_rfl)) (fun _ _ _ h => h) (Or.inl ⟨by rfl, ?_⟩) ?_ ?_
               rotate_left
               ·intro w'
                go_simp
                with_reducible rfl
               rotate_left
               ·simp only [Act.put, List.setIfInBounds_toArray, List.set_cons_zero, List.set_cons_succ, i64_w, i32_w]
                rfl
               refine pure_ (i := 7) (N := some 42) (v := ?_) (a' := ?_) #[true, true, true, true, true, true, true, true, true, true, true, false, false, false, false] rfl rfl (any_of HT_.out (by kernel_rfl)) (fun _ _ _ h => h) (Or.inl ⟨by rfl, ?_⟩) ?_ ?_
               rotate_left
               ·intro w'
                go_simp
                with_reducible rfl
               rotate_left
               ·simp only [Act.put, List.setIfInBounds_toArray, List.set_cons_zero, List.set_cons_succ, i64_w, i32_w]
                rfl
               refine one_ (i := 11) (N := some 46) #[true, true, true, true, true, true, true, true, true, true, true, true, false, false, false] rfl rfl (one_of HT_.out (by kernel_rfl)) (by decide) (fun K hK => ?_)
               refine goes_ Try.func39 (by kernel_rfl) rfl #[.int .i64 (l0_3.length : Int)] (by rfl) rfl rfl (by (try simp only [List.map_toArray, List.map_cons, List.map_nil]); first | done | rfl | (simp only [List.length_drop, List.length_take]; rfl)) ?_
               with_reducible refine (stylusref03_Plain.calls k1 (l0_3.length : Int) t266 _ A21.out).mono ?_
               rintro e w32 ⟨rfl, hb⟩
               refine ⟨_, rfl, ?_⟩
               have n0_ := Aside0.mk (blk_below (g := gb261) (o := .cells #[.string a0_0, .slice A0_1 l0_1.length c0_1, .slice A0_2 l0_2.length c0_2, .slice A0_3 l0_3.length c0_3, .bool true, .slice A0_5 l0_5.length c0_5] 26 (0, 0)) (by (with_reducible repeat (first | refine blk_drewN ?_ _ | refine blk_drew ?_ | refine blk_alloc ?_ _)); exact BK261.out) hb)
               have n1_ := Aside0.mk (below_step (by repeat (first | (with_reducible first | exact HB.out | apply below_alloc | apply pw_below_drewN | apply below_drew1 | refine below_set ?_ GE261.out) | exact HB.out)) hb)
               clear BK261
               clear HB
               have BK261 := n0_
               have HB := n1_
               clear n0_ n1_
               (try clear hb)
               (try clear hb2)
               (try clear hk)
               (try clear hi)
               refine hK.out _ _ ⟨(blk_cell BK261.out 0).trans rfl, (blk_cell BK261.out 1).trans rfl, (blk_cell BK261.out 2).trans rfl, (blk_cell BK261.out 3).trans rfl, (blk_cell BK261.out 4).trans rfl, (blk_cell BK261.out 5).trans rfl⟩ (fun hHeld => ?_)
               clear hK K
               refine norm_ (a' := ?_) ?_ ?_
               rotate_left
               ·show Act.put _ (some 46) _ = _
                simp only [Act.put, List.setIfInBounds_toArray, List.set_cons_zero, List.set_cons_succ, i64_w, i32_w]
                rfl
               refine pure_ (i := 12) (N := some 47) (v := ?_) (a' := ?_) #[true, true, true, true, true, true, true, true, true, true, true, true, true, false, false] rfl rfl (any_of HT_.out (by kernel_rfl)) (fun _ _ _ h => h) (Or.inl ⟨by rfl, ?_⟩) ?_ ?_
               rotate_left
               ·intro w'
                go_simp
                with_reducible rfl
               rotate_left
               ·simp only [Act.put, List.setIfInBounds_toArray, List.set_cons_zero, List.set_cons_succ, i64_w, i32_w]
                rfl
               refine pure_ (i := 13) (N := some 48) (v := ?_) (a' := ?_) #[true, true, true, true, true, true, true, true, true, true, true, true, true, true, false] rfl rfl (any_of HT_.out (by kernel_rfl)) (fun _ _ _ h => h) (Or.inl ⟨by rfl, ?_⟩) ?_ ?_
               rotate_left
               ·intro w'
                go_simp
                with_reducible rfl
               rotate_left
               ·simp only [Act.put, List.setIfInBounds_toArray, List.set_cons_zero, List.set_cons_succ, i64_w, i32_w]
                rfl
               refine pure_ (i := 14) (N := some 3) (v := ?_) (a' := ?_) #[true, true, true, true, true, true, true, true, true, true, true, true, true, true, true] rfl rfl (any_of HT_.out (by kernel_rfl)) (fun _ _ _ h => h) (Or.inl ⟨by rfl, ?_⟩) ?_ ?_
               rotate_left
               ·intro w'
                go_simp
                with_reducible rfl
               rotate_left
               ·simp only [Act.put, List.setIfInBounds_toArray, List.set_cons_zero, List.set_cons_succ, i64_w, i32_w]
                rfl
               refine done_ (done_of HT_.out (by kernel_rfl)) ?_
               have hcz33_0 : w32.cell? ⟨gb261, 0, none⟩ = some (.string a0_0) := (blk_cell BK261.out 0).trans rfl
               have hcz33_1 : w32.cell? ⟨gb261, 1, none⟩ = some (.slice A0_1 l0_1.length c0_1) := (blk_cell BK261.out 1).trans rfl
               have hcz33_2 : w32.cell? ⟨gb261, 2, none⟩ = some (.slice A0_2 l0_2.length c0_2) := (blk_cell BK261.out 2).trans rfl
               have hcz33_3 : w32.cell? ⟨gb261, 3, none⟩ = some (.slice A0_3 l0_3.length c0_3) := (blk_cell BK261.out 3).trans rfl
               have hcz33_4 : w32.cell? ⟨gb261, 4, none⟩ = some (.bool true) := (blk_cell BK261.out 4).trans rfl
               have hcz33_5 : w32.cell? ⟨gb261, 5, none⟩ = some (.slice A0_5 l0_5.length c0_5) := (blk_cell BK261.out 5).trans rfl
               have hfz33_0 := blk_frozen BK261.out 0
               have hfz33_1 := blk_frozen BK261.out 1
               have hfz33_2 := blk_frozen BK261.out 2
               have hfz33_3 := blk_frozen BK261.out 3
               have hfz33_4 := blk_frozen BK261.out 4
               have hfz33_5 := blk_frozen BK261.out 5
               try go_wp2_with (first | ((with_reducible refine gate_callee (f := 39) rfl ?_); refine goesL_ (some 56) rfl rfl Try.func39 (by kernel_rfl) rfl #[.int .i64 (l0_5.length : Int)] rfl (by (try simp only [List.map_toArray, List.map_cons, List.map_nil]); first | done | rfl | (simp only [List.length_drop, List.length_take]; rfl)) ?_; (with_reducible refine (stylusref03_Plain.calls k1 (l0_5.length : Int) t267 _ A26.out).mono ?_); rintro e w34 ⟨rfl, hb⟩; refine ⟨_, rfl, ?_⟩; have n0_ := Aside0.mk (blk_below (g := gb261) (o := .cells #[.string a0_0, .slice A0_1 l0_1.length c0_1, .slice A0_2 l0_2.length c0_2, .slice A0_3 l0_3.length c0_3, .bool true, .slice A0_5 l0_5.length c0_5] 26 (0, 0)) (by (with_reducible repeat (first | refine blk_drewN ?_ _ | refine blk_drew ?_ | refine blk_alloc ?_ _)); exact BK261.out) hb); have n1_ := Aside0.mk (below_step (by repeat (first | (with_reducible first | exact HB.out | apply below_alloc | apply pw_below_drewN | apply below_drew1 | refine below_set ?_ GE261.out) | exact HB.out)) hb); clear BK261; clear HB; have BK261 := n0_; have HB := n1_; clear n0_ n1_; (try clear hb); (try clear hb2); (try clear hk); (try clear hi)))
               go_ret
               exact ⟨by first | rfl | (simp [errW_none, errW_some] <;> rfl) | (simp [*, errW_none, errW_some] <;> rfl), by repeat (first | (with_reducible first | exact HB.out | apply below_alloc | apply pw_below_drewN | apply below_drew1 | refine below_set ?_ GE261.out) | exact HB.out)⟩
              ·rw [if_neg c28] at H
               exact absurd H (by simp)
             ·rw [if_neg c27] at H
              exact absurd H (by simp)
            ·rw [if_neg c25] at H
             exact absurd H (by simp)
           ·replace c24 := Bool.eq_false_iff.mpr c24
            subst c24
            have H1 : (some (((((x3_1 ++ (⟨#[117, 110, 100, 111, 32]⟩ : ByteArray)) ++ t265) ++ (⟨#[10, 114, 101, 100, 111, 32]⟩ : ByteArray)) ++ t266) ++ (⟨#[10]⟩ : ByteArray))) = some r := by rw [if_neg (show ¬ (false = true) by decide)] at H; exact H
            clear H
            have H := H1
            clear H1
            obtain rfl := Option.some.inj H
            have hcz35_0 : wr.cell? ⟨gb261, 0, none⟩ = some (.string a0_0) := (blk_cell BK261.out 0).trans rfl
            have hcz35_1 : wr.cell? ⟨gb261, 1, none⟩ = some (.slice A0_1 l0_1.length c0_1) := (blk_cell BK261.out 1).trans rfl
            have hcz35_2 : wr.cell? ⟨gb261, 2, none⟩ = some (.slice A0_2 l0_2.length c0_2) := (blk_cell BK261.out 2).trans rfl
            have hcz35_3 : wr.cell? ⟨gb261, 3, none⟩ = some (.slice A0_3 l0_3.length c0_3) := (blk_cell BK261.out 3).trans rfl
            have hcz35_4 : wr.cell? ⟨gb261, 4, none⟩ = some (.bool false) := (blk_cell BK261.out 4).trans rfl
            have hcz35_5 : wr.cell? ⟨gb261, 5, none⟩ = some (.slice A0_5 l0_5.length c0_5) := (blk_cell BK261.out 5).trans rfl
            have hfz35_0 := blk_frozen BK261.out 0
            have hfz35_1 := blk_frozen BK261.out 1
            have hfz35_2 := blk_frozen BK261.out 2
            have hfz35_3 := blk_frozen BK261.out 3
            have hfz35_4 := blk_frozen BK261.out 4
            have hfz35_5 := blk_frozen BK261.out 5
            try go_wp2
            have n0_ := Aside0.mk (blk_drew BK261.out)
            have n1_ := Aside0.mk (below_drew1 HB.out)
            clear BK261
            clear HB
            have BK261 := n0_
            have HB := n1_
            clear n0_ n1_
            refine start_ (n := 15) (S := fun w' => w'.cell? ⟨gb261, 0, none⟩ = some (.string a0_0) ∧ w'.cell? ⟨gb261, 1, none⟩ = some (.slice A0_1 l0_1.length c0_1) ∧ w'.cell? ⟨gb261, 2, none⟩ = some (.slice A0_2 l0_2.length c0_2) ∧ w'.cell? ⟨gb261, 3, none⟩ = some (.slice A0_3 l0_3.length c0_3) ∧ w'.cell? ⟨gb261, 4, none⟩ = some (.bool false) ∧ w'.cell? ⟨gb261, 5, none⟩ = some (.slice A0_5 l0_5.length c0_5)) (ds := []) #[false, false, false, false, false, false, false, false, false, false, false, false, false, false, false] (by kernel_rfl) rfl rfl ⟨(blk_cell BK261.out 0).trans rfl, (blk_cell BK261.out 1).trans rfl, (blk_cell BK261.out 2).trans rfl, (blk_cell BK261.out 3).trans rfl, (blk_cell BK261.out 4).trans rfl, (blk_cell BK261.out 5).trans rfl⟩ (fun hHeld => ?_); refine with_tabW stylusref25_Show.tab6 stylusref25_Show.bits6 (fun HT_ HW_ => ?_)
            generalize wr.drew = w36 at BK261 HB hHeld ⊢
            refine pure_ (i := 0) (N := some 35) (v := ?_) (a' := ?_) #[true, false, false, false, false, false, false, false, false, false, false, false, false, false, false] rfl rfl (any_of HT_.out (by kernel_rfl)) (fun _ _ _ h => h) (Or.inl ⟨by rfl, ?_⟩) ?_ ?_
            rotate_left
            ·intro w'
             go_simp
             with_reducible rfl
            rotate_left
            ·simp only [Act.put, List.setIfInBounds_toArray, List.set_cons_zero, List.set_cons_succ, i64_w, i32_w]
             rfl
            refine pure_ (i := 1) (N := some 36) (v := ?_) (a' := ?_) #[true, true, false, false, false, false, false, false, false, false, false, false, false, false, false] rfl rfl (any_of HT_.out (by kernel_rfl)) (fun _ _ _ h => h) (Or.inl ⟨by rfl, ?_⟩) ?_ ?_
            rotate_left
            ·intro w'
             go_simp
             with_reducible rfl
            rotate_left
            ·simp only [Act.put, List.setIfInBounds_toArray, List.set_cons_zero, List.set_cons_succ, i64_w, i32_w]
             rfl
            refine pure_ (i := 2) (N := some 37) (v := ?_) (a' := ?_) #[true, true, true, false, false, false, false, false, false, false, false, false, false, false, false] rfl rfl (any_of HT_.out (by kernel_rfl)) (fun _ _ _ h => h) (Or.inl ⟨by rfl, ?_⟩) ?_ ?_
            rotate_left
            ·intro w'
             go_simp
             with_reducible rfl
            rotate_left
            ·simp only [Act.put, List.setIfInBounds_toArray, List.set_cons_zero, List.set_cons_succ, i64_w, i32_w]
             rfl
            refine pure_ (i := 8) (N := some 43) (v := ?_) (a' := ?_) #[true, true, true, false, false, false, false, false, true, false, false, false, false, false, false] rfl rfl (any_of HT_.out (by kernel_rfl)) (fun _ _ _ h => h) (Or.inl ⟨by rfl, ?_⟩) ?_ ?_
            rotate_left
            ·intro w'
             go_simp
             with_reducible rfl
            rotate_left
            ·simp only [Act.put, List.setIfInBounds_toArray, List.set_cons_zero, List.set_cons_succ, i64_w, i32_w]
             rfl
            refine take_ (i := 3) (N := some 38) (v := ?_) (a' := ?_) #[true, true, true, true, false, false, false, false, true, false, false, false, false, false, false] rfl rfl (take_ofW HT_.out HW_.out (by kernel_rfl)) (fun _ _ _ h => h) (Or.inl ⟨by rfl, ?_⟩) hHeld ?_ ?_
            rotate_left
            ·rintro w' ⟨s0, s1, s2, s3, s4, s5⟩
             go_simp
             with_reducible rfl
            rotate_left
            ·simp only [Act.put, List.setIfInBounds_toArray, List.set_cons_zero, List.set_cons_succ, i64_w, i32_w]
             rfl
            refine pure_ (i := 4) (N := some 39) (v := ?_) (a' := ?_) #[true, true, true, true, true, false, false, false, true, false, false, false, false, false, false] rfl rfl (any_of HT_.out (by kernel_rfl)) (fun _ _ _ h => h) (Or.inl ⟨by rfl, ?_⟩) ?_ ?_
            rotate_left
            ·intro w'
             go_simp
             with_reducible rfl
            rotate_left
            ·simp only [Act.put, List.setIfInBounds_toArray, List.set_cons_zero, List.set_cons_succ, i64_w, i32_w]
             rfl
            refine take_ (i := 9) (N := some 44) (v := ?_) (a' := ?_) #[true, true, true, true, true, false, false, false, true, true, false, false, false, false, false] rfl rfl (take_ofW HT_.out HW_.out (by kernel_rfl)) (fun _ _ _ h => h) (Or.inl ⟨by rfl, ?_⟩) hHeld ?_ ?_
            rotate_left
            ·rintro w' ⟨s0, s1, s2, s3, s4, s5⟩
             go_simp
             with_reducible rfl
            rotate_left
            ·simp only [Act.put, List.setIfInBounds_toArray, List.set_cons_zero, List.set_cons_succ, i64_w, i32_w]
             rfl
            refine pure_ (i := 10) (N := some 45) (v := ?_) (a' := ?_) #[true, true, true, true, true, false, false, false, true, true, true, false, false, false, false] rfl rfl (any_of HT_.out (by kernel_rfl)) (fun _ _ _ h => h) (Or.inl ⟨by rfl, ?_⟩) ?_ ?_
            rotate_left
            ·intro w'
             go_simp
             with_reducible rfl
            rotate_left
            ·simp only [Act.put, List.setIfInBounds_toArray, List.set_cons_zero, List.set_cons_succ, i64_w, i32_w]
             rfl
            refine one_ (i := 5) (N := some 40) #[true, true, true, true, true, true, false, false, true, true, true, false, false, false, false] rfl rfl (one_of HT_.out (by kernel_rfl)) (by decide) (fun K hK => ?_)
            refine goes_ Try.func39 (by kernel_rfl) rfl #[.int .i64 (l0_2.length : Int)] (by rfl) rfl rfl (by (try simp only [List.map_toArray, List.map_cons, List.map_nil]); first | done | rfl | (simp only [List.length_drop, List.length_take]; rfl)) ?_
            with_reducible refine (stylusref03_Plain.calls k1 (l0_2.length : Int) t265 _ A18.out).mono ?_
            rintro e w37 ⟨rfl, hb⟩
            refine ⟨_, rfl, ?_⟩
            have n0_ := Aside0.mk (blk_below (g := gb261) (o := .cells #[.string a0_0, .slice A0_1 l0_1.length c0_1, .slice A0_2 l0_2.length c0_2, .slice A0_3 l0_3.length c0_3, .bool false, .slice A0_5 l0_5.length c0_5] 26 (0, 0)) (by (with_reducible repeat (first | refine blk_drewN ?_ _ | refine blk_drew ?_ | refine blk_alloc ?_ _)); exact BK261.out) hb)
            have n1_ := Aside0.mk (below_step (by repeat (first | (with_reducible first | exact HB.out | apply below_alloc | apply pw_below_drewN | apply below_drew1 | refine below_set ?_ GE261.out) | exact HB.out)) hb)
            clear BK261
            clear HB
            have BK261 := n0_
            have HB := n1_
            clear n0_ n1_
            (try clear hb)
            (try clear hb2)
            (try clear hk)
            (try clear hi)
            refine hK.out _ _ ⟨(blk_cell BK261.out 0).trans rfl, (blk_cell BK261.out 1).trans rfl, (blk_cell BK261.out 2).trans rfl, (blk_cell BK261.out 3).trans rfl, (blk_cell BK261.out 4).trans rfl, (blk_cell BK261.out 5).trans rfl⟩ (fun hHeld => ?_)
            clear hK K
            refine norm_ (a' := ?_) ?_ ?_
            rotate_left
            ·show Act.put _ (some 40) _ = _
             simp only [Act.put, List.setIfInBounds_toArray, List.set_cons_zero, List.set_cons_succ, i64_w, i32_w]
             rfl
            refine pure_ (i := 6) (N := some 41) (v := ?_) (a' := ?_) #[true, true, true, true, true, true, true, false, true, true, true, false, false, false, false] rfl rfl (any_of HT_.out (by kernel_rfl)) (fun _ _ _ h => h) (Or.inl ⟨by rfl, ?_⟩) ?_ ?_
            rotate_left
            ·intro w'
             go_simp
             with_reducible rfl
            rotate_left
            ·simp only [Act.put, List.setIfInBounds_toArray, List.set_cons_zero, List.set_cons_succ, i64_w, i32_w]
             rfl
            refine pure_ (i := 7) (N := some 42) (v := ?_) (a' := ?_) #[true, true, true, true, true, true, true, true, true, true, true, false, false, false, false] rfl rfl (any_of HT_.out (by kernel_rfl)) (fun _ _ _ h => h) (Or.inl ⟨by rfl, ?_⟩) ?_ ?_
            rotate_left
            ·intro w'
             go_simp
             with_reducible rfl
            rotate_left
            ·simp only [Act.put, List.setIfInBounds_toArray, List.set_cons_zero, List.set_cons_succ, i64_w, i32_w]
             rfl
            refine one_ (i := 11) (N := some 46) #[true, true, true, true, true, true, true, true, true, true, true, true, false, false, false] rfl rfl (one_of HT_.out (by kernel_rfl)) (by decide) (fun K hK => ?_)
            refine goes_ Try.func39 (by kernel_rfl) rfl #[.int .i64 (l0_3.length : Int)] (by rfl) rfl rfl (by (try simp only [List.map_toArray, List.map_cons, List.map_nil]); first | done | rfl | (simp only [List.length_drop, List.length_take]; rfl)) ?_
            with_reducible refine (stylusref03_Plain.calls k1 (l0_3.length : Int) t266 _ A21.out).mono ?_
            rintro e w38 ⟨rfl, hb⟩
            refine ⟨_, rfl, ?_⟩
            have n0_ := Aside0.mk (blk_below (g := gb261) (o := .cells #[.string a0_0, .slice A0_1 l0_1.length c0_1, .slice A0_2 l0_2.length c0_2, .slice A0_3 l0_3.length c0_3, .bool false, .slice A0_5 l0_5.length c0_5] 26 (0, 0)) (by (with_reducible repeat (first | refine blk_drewN ?_ _ | refine blk_drew ?_ | refine blk_alloc ?_ _)); exact BK261.out) hb)
            have n1_ := Aside0.mk (below_step (by repeat (first | (with_reducible first | exact HB.out | apply below_alloc | apply pw_below_drewN | apply below_drew1 | refine below_set ?_ GE261.out) | exact HB.out)) hb)
            clear BK261
            clear HB
            have BK261 := n0_
            have HB := n1_
            clear n0_ n1_
            (try clear hb)
            (try clear hb2)
            (try clear hk)
            (try clear hi)
            refine hK.out _ _ ⟨(blk_cell BK261.out 0).trans rfl, (blk_cell BK261.out 1).trans rfl, (blk_cell BK261.out 2).trans rfl, (blk_cell BK261.out 3).trans rfl, (blk_cell BK261.out 4).trans rfl, (blk_cell BK261.out 5).trans rfl⟩ (fun hHeld => ?_)
            clear hK K
            refine norm_ (a' := ?_) ?_ ?_
            rotate_left
            ·show Act.put _ (some 46) _ = _
             simp only [Act.put, List.setIfInBounds_toArray, List.set_cons_zero, List.set_cons_succ, i64_w, i32_w]
             rfl
            refine pure_ (i := 12) (N := some 47) (v := ?_) (a' := ?_) #[true, true, true, true, true, true, true, true, true, true, true, true, true, false, false] rfl rfl (any_of HT_.out (by kernel_rfl)) (fun _ _ _ h => h) (Or.inl ⟨by rfl, ?_⟩) ?_ ?_
            rotate_left
            ·intro w'
             go_simp
             with_reducible rfl
            rotate_left
            ·simp only [Act.put, List.setIfInBounds_toArray, List.set_cons_zero, List.set_cons_succ, i64_w, i32_w]
             rfl
            refine pure_ (i := 13) (N := some 48) (v := ?_) (a' := ?_) #[true, true, true, true, true, true, true, true, true, true, true, true, true, true, false] rfl rfl (any_of HT_.out (by kernel_rfl)) (fun _ _ _ h => h) (Or.inl ⟨by rfl, ?_⟩) ?_ ?_
            rotate_left
            ·intro w'
             go_simp
             with_reducible rfl
            rotate_left
            ·simp only [Act.put, List.setIfInBounds_toArray, List.set_cons_zero, List.set_cons_succ, i64_w, i32_w]
             rfl
            refine pure_ (i := 14) (N := some 3) (v := ?_) (a' := ?_) #[true, true, true, true, true, true, true, true, true, true, true, true, true, true, true] rfl rfl (any_of HT_.out (by kernel_rfl)) (fun _ _ _ h => h) (Or.inl ⟨by rfl, ?_⟩) ?_ ?_
            rotate_left
            ·intro w'
             go_simp
             with_reducible rfl
            rotate_left
            ·simp only [Act.put, List.setIfInBounds_toArray, List.set_cons_zero, List.set_cons_succ, i64_w, i32_w]
             rfl
            refine done_ (done_of HT_.out (by kernel_rfl)) ?_
            have hcz39_0 : w38.cell? ⟨gb261, 0, none⟩ = some (.string a0_0) := (blk_cell BK261.out 0).trans rfl
            have hcz39_1 : w38.cell? ⟨gb261, 1, none⟩ = some (.slice A0_1 l0_1.length c0_1) := (blk_cell BK261.out 1).trans rfl
            have hcz39_2 : w38.cell? ⟨gb261, 2, none⟩ = some (.slice A0_2 l0_2.length c0_2) := (blk_cell BK261.out 2).trans rfl
            have hcz39_3 : w38.cell? ⟨gb261, 3, none⟩ = some (.slice A0_3 l0_3.length c0_3) := (blk_cell BK261.out 3).trans rfl
            have hcz39_4 : w38.cell? ⟨gb261, 4, none⟩ = some (.bool false) := (blk_cell BK261.out 4).trans rfl
            have hcz39_5 : w38.cell? ⟨gb261, 5, none⟩ = some (.slice A0_5 l0_5.length c0_5) := (blk_cell BK261.out 5).trans rfl
            have hfz39_0 := blk_frozen BK261.out 0
            have hfz39_1 := blk_frozen BK261.out 1
            have hfz39_2 := blk_frozen BK261.out 2
            have hfz39_3 := blk_frozen BK261.out 3
            have hfz39_4 := blk_frozen BK261.out 4
            have hfz39_5 := blk_frozen BK261.out 5
            try go_wp2
            go_ret
            exact ⟨by first | rfl | (simp [errW_none, errW_some] <;> rfl) | (simp [*, errW_none, errW_some] <;> rfl), by repeat (first | (with_reducible first | exact HB.out | apply below_alloc | apply pw_below_drewN | apply below_drew1 | refine below_set ?_ GE261.out) | exact HB.out)⟩
          ·rw [if_neg c23] at H
           exact absurd H (by simp)
         ·rw [if_neg c22] at H
          exact absurd H (by simp)
        ·rw [if_neg c20] at H
         exact absurd H (by simp)
       ·rw [if_neg c19] at H
        exact absurd H (by simp)
      ·rw [if_neg c17] at H
       exact absurd H (by simp)
  ·rw [if_neg c3] at H
   exact absurd H (by simp)
 ·rw [if_neg c2] at H
  exact absurd H (by simp)
end Go.Proofs.Ytfhafkfcedghkaa.P
