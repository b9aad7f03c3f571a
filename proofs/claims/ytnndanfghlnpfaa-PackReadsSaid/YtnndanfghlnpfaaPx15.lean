import Derived.Test.YtnndanfghlnpfaaPx0
namespace Go.Proofs.Ytnndanfghlnpfaa.P
open Go.RowKit Go.Proofs.YtnndanfghlnpfaaW.PrintWords Go.Proofs.YtnndanfghlnpfaaW.PrintLast Go.Proofs.YtnndanfghlnpfaaW.PrintMore
attribute [local go_sem] max2_int min2_int max_two min_two max_three min_three max_four min_four   -- for this text's walks alone
set_option linter.unusedVariables false
set_option linter.unusedSimpArgs false
/-! ### sr25small: function 50 -/
mutual
def sr25small.l0 : Nat → List (S38) → Int → Option (Bool)
 | 0, _, _ => none
 | k + 1, x0, x3 => if x3 < (x0.length : Int) then (sr25small.l1 k x0 x3 0) else (some true)
def sr25small.l1 : Nat → List (S38) → Int → Int → Option (Bool)
 | 0, _, _, _ => none
 | k + 1, x0, x3, x4 => if 0 ≤ x3 then (if x3 < (x0.length : Int) then (if x4 < (((rd_T38 x0 x3).f0).length : Int) then (if 0 ≤ x4 then (if (((rd_T88 ((rd_T38 x0 x3).f0) x4).f1).size : Int) > 512 then (some false) else (if (((rd_T88 ((rd_T38 x0 x3).f0) x4).f2).size : Int) > 512 then (some false) else (if ((rd_T88 ((rd_T38 x0 x3).f0) x4).f1).toList = ([] : List UInt8) then (if ((rd_T88 ((rd_T38 x0 x3).f0) x4).f2).toList = ([] : List UInt8) then (some false) else (sr25small.l1 k x0 x3 (wrap64 (x4 + 1)))) else (sr25small.l1 k x0 x3 (wrap64 (x4 + 1)))))) else (none)) else (sr25small.l0 k x0 (wrap64 (x3 + 1)))) else (none)) else (none)
end
def sr25small.f (k : Nat) (l0 : List (S38)) : Option (Bool) := sr25small.l0 k l0 0
set_option maxHeartbeats 8000000 in
set_option maxRecDepth 100000 in
theorem sr25small.calls (k : Nat) (A0 : Option Addr) (c0 : Nat) (l0 : List (S38)) (r : Bool) (w : World) (hr0 : Kd.C k38 w A0 l0.length l0) (hc0 : l0.length ≤ c0) (h : sr25small.f k l0 = some r) :
  Calls Try.prog 50 #[.slice A0 l0.length c0] w fun e w' => e = .returned (.bool r) ∧ Below w.heap.size w w' := by
 have hu88 := Try.underlying88
 have HR0 := aS_ hr0
 have HC0 := aS_ hc0
 clear hr0 hc0
 have HB := aS_ (Below.refl w.heap.size w)
 have H : (sr25small.l0 k l0 0) = some r := h
 clear h
 have H' := aS_ H
 clear H
 go_enter Try.func50, Try.ntmps50
 go_wp2
 go_loopg [3] k (fun kq v3 w' => ∃ (x3_1 : Int), v3 = .int .i64 x3_1 ∧ Aside0 (sr25small.l0 kq l0 x3_1 = some r) ∧ Aside0 (kq ≤ k) ∧ Aside0 (Below w.heap.size w w'))
 case atStart => exact ⟨(0), t0, H', ⟨Nat.le_refl _⟩, ⟨wk HB.out⟩⟩
 case round =>
  clear H'
  obtain ⟨x3_1, rfl, HA, HK1, HB⟩ := hrel
  cases gk with
  | zero => exact absurd HA.out (by simp [sr25small.l0])
  | succ k1 =>
   have H := HA.out
   clear HA
   simp only [sr25small.l0] at H
   by_cases c2 : x3_1 < (l0.length : Int)
   ·rw [if_pos c2] at H
    have c2b0 := decide_eq_true c2
    clear c2
    have H' := aS_ H
    clear H
    go_wp2
    go_loopg [4] k1 (fun kq v4 w' => ∃ (x4_2 : Int), v4 = .int .i64 x4_2 ∧ Aside0 (sr25small.l1 kq l0 x3_1 x4_2 = some r) ∧ Aside0 (kq ≤ k1) ∧ Aside0 (Below w.heap.size w w'))
    case atStart => exact ⟨(0), t0, H', ⟨Nat.le_refl _⟩, ⟨wk HB.out⟩⟩
    case round =>
     clear H'
     try clear c2
     try clear c2b0
     try clear p2
     obtain ⟨x4_2, rfl, HA, HK2, HB⟩ := hrel
     cases gk with
     | zero => exact absurd HA.out (by simp [sr25small.l1])
     | succ k2 =>
      have H := HA.out
      clear HA
      simp only [sr25small.l1] at H
      by_cases c3 : 0 ≤ x3_1
      ·rw [if_pos c3] at H
       have c3b0 := decide_eq_true c3
       clear c3
       by_cases c4 : x3_1 < (l0.length : Int)
       ·rw [if_pos c4] at H
        have c4b0 := decide_eq_true c4
        clear c4
        by_cases c5 : x4_2 < (((rd_T38 l0 x3_1).f0).length : Int)
        ·rw [if_pos c5] at H
         have c5b0 := decide_eq_true c5
         clear c5
         by_cases c6 : 0 ≤ x4_2
         ·rw [if_pos c6] at H
          have c6b0 := decide_eq_true c6
          clear c6
          by_cases c7 : (((rd_T88 ((rd_T38 l0 x3_1).f0) x4_2).f1).size : Int) > 512
          ·rw [if_pos c7] at H
           have c7b0 := decide_eq_true c7
           have c7b1 : decide (512 < ((rd_T88 ((rd_T38 l0 x3_1).f0) x4_2).f1).size) = true := decide_eq_true (by omega)
           clear c7
           obtain rfl := Option.some.inj H
           have p244 : 0 ≤ (x3_1 : Int) := of_decide_eq_true (by first | (with_reducible assumption) | assumption)
           have q244 : x3_1 < (l0.length : Int) := of_decide_eq_true (by first | (with_reducible assumption) | assumption)
           obtain ⟨ad244, A244_0, c244_0, e244, hx244_0, hl244_0, hi244_0⟩ := at_T38 HR0.out x3_1 p244 q244
           cases e244
           replace hx244_0 := (HB.out.cell (World.block_lt_of_cell? w _ hx244_0)).trans hx244_0
           have HR244_0 := aS_ hi244_0
           have HC244_0 := aS_ hl244_0
           clear hi244_0 hl244_0
           replace p244 := eq_true p244
           replace q244 := eq_true q244
           have p245 : 0 ≤ (x3_1 : Int) := of_decide_eq_true (by first | (with_reducible assumption) | assumption)
           have q245 : x3_1 < (l0.length : Int) := of_decide_eq_true (by first | (with_reducible assumption) | assumption)
           obtain ⟨ad245, A245_0, c245_0, e245, hx245_0, hl245_0, hi245_0⟩ := at_T38 HR0.out x3_1 p245 q245
           obtain rfl : ad244 = ad245 := (by injection e245)
           replace hx245_0 := (HB.out.cell (World.block_lt_of_cell? w _ hx245_0)).trans hx245_0
           have HR245_0 := aS_ hi245_0
           have HC245_0 := aS_ hl245_0
           clear hi245_0 hl245_0
           replace p245 := eq_true p245
           replace q245 := eq_true q245
           have ea_ := Option.some.inj (hx244_0.symm.trans hx245_0)
           injection ea_ with ea_ en_ ec_
           subst ea_
           subst ec_
           clear en_
           have p246 : 0 ≤ (x4_2 : Int) := of_decide_eq_true (by first | (with_reducible assumption) | assumption)
           have q246 : x4_2 < (((rd_T38 l0 x3_1).f0).length : Int) := of_decide_eq_true (by first | (with_reducible assumption) | assumption)
           obtain ⟨ad246, e246, hx246_0, hx246_1, hx246_2⟩ := at_T88 HR245_0.out x4_2 p246 q246
           cases e246
           replace hx246_0 := (HB.out.cell (World.block_lt_of_cell? w _ hx246_0)).trans hx246_0
           replace hx246_1 := (HB.out.cell (World.block_lt_of_cell? w _ hx246_1)).trans hx246_1
           replace hx246_2 := (HB.out.cell (World.block_lt_of_cell? w _ hx246_2)).trans hx246_2
           replace p246 := eq_true p246
           replace q246 := eq_true q246
           go_wp2_with (first | ((with_reducible refine gate_dst (N := 5) rfl ?_); (try (refine gate_guard (by rfl) ?_; dsimp only)); refine bx_ 5 #[.int .i64 0, .string (⟨#[]⟩ : ByteArray), .string (⟨#[]⟩ : ByteArray)] 88 ?_; intro gb247 hg w8 hbox hb; have BK247 := aS_ (hbox); have GW247 := ge_ hg (wk HB.out); have GE247 := ge_ hg (wk HB.out); replace HB := bw_ HB hb; clear hb hbox hg; obtain ⟨hcz9_0, hcz9_1, hcz9_2, hfz9_0, hfz9_1, hfz9_2⟩ := c3_ BK247.out))
           go_ret
           exact ⟨t1, wk HB.out⟩
          ·rw [if_neg c7] at H
           have c7b0 := decide_eq_false c7
           have c7b1 : decide (512 < ((rd_T88 ((rd_T38 l0 x3_1).f0) x4_2).f1).size) = false := decide_eq_false (by omega)
           clear c7
           by_cases c10 : (((rd_T88 ((rd_T38 l0 x3_1).f0) x4_2).f2).size : Int) > 512
           ·rw [if_pos c10] at H
            have c10b0 := decide_eq_true c10
            have c10b1 : decide (512 < ((rd_T88 ((rd_T38 l0 x3_1).f0) x4_2).f2).size) = true := decide_eq_true (by omega)
            clear c10
            obtain rfl := Option.some.inj H
            have p244 : 0 ≤ (x3_1 : Int) := of_decide_eq_true (by first | (with_reducible assumption) | assumption)
            have q244 : x3_1 < (l0.length : Int) := of_decide_eq_true (by first | (with_reducible assumption) | assumption)
            obtain ⟨ad244, A244_0, c244_0, e244, hx244_0, hl244_0, hi244_0⟩ := at_T38 HR0.out x3_1 p244 q244
            cases e244
            replace hx244_0 := (HB.out.cell (World.block_lt_of_cell? w _ hx244_0)).trans hx244_0
            have HR244_0 := aS_ hi244_0
            have HC244_0 := aS_ hl244_0
            clear hi244_0 hl244_0
            replace p244 := eq_true p244
            replace q244 := eq_true q244
            have p245 : 0 ≤ (x3_1 : Int) := of_decide_eq_true (by first | (with_reducible assumption) | assumption)
            have q245 : x3_1 < (l0.length : Int) := of_decide_eq_true (by first | (with_reducible assumption) | assumption)
            obtain ⟨ad245, A245_0, c245_0, e245, hx245_0, hl245_0, hi245_0⟩ := at_T38 HR0.out x3_1 p245 q245
            obtain rfl : ad244 = ad245 := (by injection e245)
            replace hx245_0 := (HB.out.cell (World.block_lt_of_cell? w _ hx245_0)).trans hx245_0
            have HR245_0 := aS_ hi245_0
            have HC245_0 := aS_ hl245_0
            clear hi245_0 hl245_0
            replace p245 := eq_true p245
            replace q245 := eq_true q245
            have ea_ := Option.some.inj (hx244_0.symm.trans hx245_0)
            injection ea_ with ea_ en_ ec_
            subst ea_
            subst ec_
            clear en_
            have p246 : 0 ≤ (x4_2 : Int) := of_decide_eq_true (by first | (with_reducible assumption) | assumption)
            have q246 : x4_2 < (((rd_T38 l0 x3_1).f0).length : Int) := of_decide_eq_true (by first | (with_reducible assumption) | assumption)
            obtain ⟨ad246, e246, hx246_0, hx246_1, hx246_2⟩ := at_T88 HR245_0.out x4_2 p246 q246
            cases e246
            replace hx246_0 := (HB.out.cell (World.block_lt_of_cell? w _ hx246_0)).trans hx246_0
            replace hx246_1 := (HB.out.cell (World.block_lt_of_cell? w _ hx246_1)).trans hx246_1
            replace hx246_2 := (HB.out.cell (World.block_lt_of_cell? w _ hx246_2)).trans hx246_2
            replace p246 := eq_true p246
            replace q246 := eq_true q246
            go_wp2_with (first | ((with_reducible refine gate_dst (N := 5) rfl ?_); (try (refine gate_guard (by rfl) ?_; dsimp only)); refine bx_ 5 #[.int .i64 0, .string (⟨#[]⟩ : ByteArray), .string (⟨#[]⟩ : ByteArray)] 88 ?_; intro gb247 hg w11 hbox hb; have BK247 := aS_ (hbox); have GW247 := ge_ hg (wk HB.out); have GE247 := ge_ hg (wk HB.out); replace HB := bw_ HB hb; clear hb hbox hg; obtain ⟨hcz12_0, hcz12_1, hcz12_2, hfz12_0, hfz12_1, hfz12_2⟩ := c3_ BK247.out))
            go_ret
            exact ⟨t1, wk HB.out⟩
           ·rw [if_neg c10] at H
            have c10b0 := decide_eq_false c10
            have c10b1 : decide (512 < ((rd_T88 ((rd_T38 l0 x3_1).f0) x4_2).f2).size) = false := decide_eq_false (by omega)
            clear c10
            by_cases c13 : ((rd_T88 ((rd_T38 l0 x3_1).f0) x4_2).f1).toList = ([] : List UInt8)
            ·rw [if_pos c13] at H
             have c13b0 := beq_iff_eq.mpr c13
             have c13b1 := bne_eq_false_iff_eq.mpr c13
             clear c13
             by_cases c14 : ((rd_T88 ((rd_T38 l0 x3_1).f0) x4_2).f2).toList = ([] : List UInt8)
             ·rw [if_pos c14] at H
              have c14b0 := beq_iff_eq.mpr c14
              have c14b1 := bne_eq_false_iff_eq.mpr c14
              clear c14
              obtain rfl := Option.some.inj H
              have p244 : 0 ≤ (x3_1 : Int) := of_decide_eq_true (by first | (with_reducible assumption) | assumption)
              have q244 : x3_1 < (l0.length : Int) := of_decide_eq_true (by first | (with_reducible assumption) | assumption)
              obtain ⟨ad244, A244_0, c244_0, e244, hx244_0, hl244_0, hi244_0⟩ := at_T38 HR0.out x3_1 p244 q244
              cases e244
              replace hx244_0 := (HB.out.cell (World.block_lt_of_cell? w _ hx244_0)).trans hx244_0
              have HR244_0 := aS_ hi244_0
              have HC244_0 := aS_ hl244_0
              clear hi244_0 hl244_0
              replace p244 := eq_true p244
              replace q244 := eq_true q244
              have p245 : 0 ≤ (x3_1 : Int) := of_decide_eq_true (by first | (with_reducible assumption) | assumption)
              have q245 : x3_1 < (l0.length : Int) := of_decide_eq_true (by first | (with_reducible assumption) | assumption)
              obtain ⟨ad245, A245_0, c245_0, e245, hx245_0, hl245_0, hi245_0⟩ := at_T38 HR0.out x3_1 p245 q245
              obtain rfl : ad244 = ad245 := (by injection e245)
              replace hx245_0 := (HB.out.cell (World.block_lt_of_cell? w _ hx245_0)).trans hx245_0
              have HR245_0 := aS_ hi245_0
              have HC245_0 := aS_ hl245_0
              clear hi245_0 hl245_0
              replace p245 := eq_true p245
              replace q245 := eq_true q245
              have ea_ := Option.some.inj (hx244_0.symm.trans hx245_0)
              injection ea_ with ea_ en_ ec_
              subst ea_
              subst ec_
              clear en_
              have p246 : 0 ≤ (x4_2 : Int) := of_decide_eq_true (by first | (with_reducible assumption) | assumption)
              have q246 : x4_2 < (((rd_T38 l0 x3_1).f0).length : Int) := of_decide_eq_true (by first | (with_reducible assumption) | assumption)
              obtain ⟨ad246, e246, hx246_0, hx246_1, hx246_2⟩ := at_T88 HR245_0.out x4_2 p246 q246
              cases e246
              replace hx246_0 := (HB.out.cell (World.block_lt_of_cell? w _ hx246_0)).trans hx246_0
              replace hx246_1 := (HB.out.cell (World.block_lt_of_cell? w _ hx246_1)).trans hx246_1
              replace hx246_2 := (HB.out.cell (World.block_lt_of_cell? w _ hx246_2)).trans hx246_2
              replace p246 := eq_true p246
              replace q246 := eq_true q246
              go_wp2_with (first | ((with_reducible refine gate_dst (N := 5) rfl ?_); (try (refine gate_guard (by rfl) ?_; dsimp only)); refine bx_ 5 #[.int .i64 0, .string (⟨#[]⟩ : ByteArray), .string (⟨#[]⟩ : ByteArray)] 88 ?_; intro gb247 hg w15 hbox hb; have BK247 := aS_ (hbox); have GW247 := ge_ hg (wk HB.out); have GE247 := ge_ hg (wk HB.out); replace HB := bw_ HB hb; clear hb hbox hg; obtain ⟨hcz16_0, hcz16_1, hcz16_2, hfz16_0, hfz16_1, hfz16_2⟩ := c3_ BK247.out))
              go_ret
              exact ⟨t1, wk HB.out⟩
             ·rw [if_neg c14] at H
              have c14b0 := beq_eq_false_iff_ne.mpr c14
              have c14b1 := bne_iff_ne.mpr c14
              have H' := aS_ H
              clear H
              have p244 : 0 ≤ (x3_1 : Int) := of_decide_eq_true (by first | (with_reducible assumption) | assumption)
              have q244 : x3_1 < (l0.length : Int) := of_decide_eq_true (by first | (with_reducible assumption) | assumption)
              obtain ⟨ad244, A244_0, c244_0, e244, hx244_0, hl244_0, hi244_0⟩ := at_T38 HR0.out x3_1 p244 q244
              cases e244
              replace hx244_0 := (HB.out.cell (World.block_lt_of_cell? w _ hx244_0)).trans hx244_0
              have HR244_0 := aS_ hi244_0
              have HC244_0 := aS_ hl244_0
              clear hi244_0 hl244_0
              replace p244 := eq_true p244
              replace q244 := eq_true q244
              have p245 : 0 ≤ (x3_1 : Int) := of_decide_eq_true (by first | (with_reducible assumption) | assumption)
              have q245 : x3_1 < (l0.length : Int) := of_decide_eq_true (by first | (with_reducible assumption) | assumption)
              obtain ⟨ad245, A245_0, c245_0, e245, hx245_0, hl245_0, hi245_0⟩ := at_T38 HR0.out x3_1 p245 q245
              obtain rfl : ad244 = ad245 := (by injection e245)
              replace hx245_0 := (HB.out.cell (World.block_lt_of_cell? w _ hx245_0)).trans hx245_0
              have HR245_0 := aS_ hi245_0
              have HC245_0 := aS_ hl245_0
              clear hi245_0 hl245_0
              replace p245 := eq_true p245
              replace q245 := eq_true q245
              have ea_ := Option.some.inj (hx244_0.symm.trans hx245_0)
              injection ea_ with ea_ en_ ec_
              subst ea_
              subst ec_
              clear en_
              have p246 : 0 ≤ (x4_2 : Int) := of_decide_eq_true (by first | (with_reducible assumption) | assumption)
              have q246 : x4_2 < (((rd_T38 l0 x3_1).f0).length : Int) := of_decide_eq_true (by first | (with_reducible assumption) | assumption)
              obtain ⟨ad246, e246, hx246_0, hx246_1, hx246_2⟩ := at_T88 HR245_0.out x4_2 p246 q246
              cases e246
              replace hx246_0 := (HB.out.cell (World.block_lt_of_cell? w _ hx246_0)).trans hx246_0
              replace hx246_1 := (HB.out.cell (World.block_lt_of_cell? w _ hx246_1)).trans hx246_1
              replace hx246_2 := (HB.out.cell (World.block_lt_of_cell? w _ hx246_2)).trans hx246_2
              replace p246 := eq_true p246
              replace q246 := eq_true q246
              go_wp2_with (first | ((with_reducible refine gate_dst (N := 5) rfl ?_); (try (refine gate_guard (by rfl) ?_; dsimp only)); refine bx_ 5 #[.int .i64 0, .string (⟨#[]⟩ : ByteArray), .string (⟨#[]⟩ : ByteArray)] 88 ?_; intro gb247 hg w17 hbox hb; have BK247 := aS_ (hbox); have GW247 := ge_ hg (wk HB.out); have GE247 := ge_ hg (wk HB.out); replace HB := bw_ HB hb; clear hb hbox hg; obtain ⟨hcz18_0, hcz18_1, hcz18_2, hfz18_0, hfz18_1, hfz18_2⟩ := c3_ BK247.out))
              go_roundg k2
              case measure => have := HK1.out; have := HK2.out; omega
              case rel => exact ⟨(wrap64 (x4_2 + 1)), t0, H', ⟨by have := HK1.out; have := HK2.out; omega⟩, ⟨wk HB.out⟩⟩
            ·rw [if_neg c13] at H
             have c13b0 := beq_eq_false_iff_ne.mpr c13
             have c13b1 := bne_iff_ne.mpr c13
             have H' := aS_ H
             clear H
             have p244 : 0 ≤ (x3_1 : Int) := of_decide_eq_true (by first | (with_reducible assumption) | assumption)
             have q244 : x3_1 < (l0.length : Int) := of_decide_eq_true (by first | (with_reducible assumption) | assumption)
             obtain ⟨ad244, A244_0, c244_0, e244, hx244_0, hl244_0, hi244_0⟩ := at_T38 HR0.out x3_1 p244 q244
             cases e244
             replace hx244_0 := (HB.out.cell (World.block_lt_of_cell? w _ hx244_0)).trans hx244_0
             have HR244_0 := aS_ hi244_0
             have HC244_0 := aS_ hl244_0
             clear hi244_0 hl244_0
             replace p244 := eq_true p244
             replace q244 := eq_true q244
             have p245 : 0 ≤ (x3_1 : Int) := of_decide_eq_true (by first | (with_reducible assumption) | assumption)
             have q245 : x3_1 < (l0.length : Int) := of_decide_eq_true (by first | (with_reducible assumption) | assumption)
             obtain ⟨ad245, A245_0, c245_0, e245, hx245_0, hl245_0, hi245_0⟩ := at_T38 HR0.out x3_1 p245 q245
             obtain rfl : ad244 = ad245 := (by injection e245)
             replace hx245_0 := (HB.out.cell (World.block_lt_of_cell? w _ hx245_0)).trans hx245_0
             have HR245_0 := aS_ hi245_0
             have HC245_0 := aS_ hl245_0
             clear hi245_0 hl245_0
             replace p245 := eq_true p245
             replace q245 := eq_true q245
             have ea_ := Option.some.inj (hx244_0.symm.trans hx245_0)
             injection ea_ with ea_ en_ ec_
             subst ea_
             subst ec_
             clear en_
             have p246 : 0 ≤ (x4_2 : Int) := of_decide_eq_true (by first | (with_reducible assumption) | assumption)
             have q246 : x4_2 < (((rd_T38 l0 x3_1).f0).length : Int) := of_decide_eq_true (by first | (with_reducible assumption) | assumption)
             obtain ⟨ad246, e246, hx246_0, hx246_1, hx246_2⟩ := at_T88 HR245_0.out x4_2 p246 q246
             cases e246
             replace hx246_0 := (HB.out.cell (World.block_lt_of_cell? w _ hx246_0)).trans hx246_0
             replace hx246_1 := (HB.out.cell (World.block_lt_of_cell? w _ hx246_1)).trans hx246_1
             replace hx246_2 := (HB.out.cell (World.block_lt_of_cell? w _ hx246_2)).trans hx246_2
             replace p246 := eq_true p246
             replace q246 := eq_true q246
             go_wp2_with (first | ((with_reducible refine gate_dst (N := 5) rfl ?_); (try (refine gate_guard (by rfl) ?_; dsimp only)); refine bx_ 5 #[.int .i64 0, .string (⟨#[]⟩ : ByteArray), .string (⟨#[]⟩ : ByteArray)] 88 ?_; intro gb247 hg w19 hbox hb; have BK247 := aS_ (hbox); have GW247 := ge_ hg (wk HB.out); have GE247 := ge_ hg (wk HB.out); replace HB := bw_ HB hb; clear hb hbox hg; obtain ⟨hcz20_0, hcz20_1, hcz20_2, hfz20_0, hfz20_1, hfz20_2⟩ := c3_ BK247.out))
             go_roundg k2
             case measure => have := HK1.out; have := HK2.out; omega
             case rel => exact ⟨(wrap64 (x4_2 + 1)), t0, H', ⟨by have := HK1.out; have := HK2.out; omega⟩, ⟨wk HB.out⟩⟩
         ·rw [if_neg c6] at H
          exact absurd H (by simp)
        ·rw [if_neg c5] at H
         have c5b0 := decide_eq_false c5
         clear c5
         have H' := aS_ H
         clear H
         have p244 : 0 ≤ (x3_1 : Int) := of_decide_eq_true (by first | (with_reducible assumption) | assumption)
         have q244 : x3_1 < (l0.length : Int) := of_decide_eq_true (by first | (with_reducible assumption) | assumption)
         obtain ⟨ad244, A244_0, c244_0, e244, hx244_0, hl244_0, hi244_0⟩ := at_T38 HR0.out x3_1 p244 q244
         cases e244
         replace hx244_0 := (HB.out.cell (World.block_lt_of_cell? w _ hx244_0)).trans hx244_0
         have HR244_0 := aS_ hi244_0
         have HC244_0 := aS_ hl244_0
         clear hi244_0 hl244_0
         replace p244 := eq_true p244
         replace q244 := eq_true q244
         go_wp2
         go_roundg k2
         case measure => have := HK1.out; have := HK2.out; omega
         case rel => exact ⟨(wrap64 (x3_1 + 1)), t0, H', ⟨by have := HK1.out; have := HK2.out; omega⟩, ⟨wk HB.out⟩⟩
       ·rw [if_neg c4] at H
        exact absurd H (by simp)
      ·rw [if_neg c3] at H
       exact absurd H (by simp)
   ·rw [if_neg c2] at H
    have c2b0 := decide_eq_false c2
    clear c2
    obtain rfl := Option.some.inj H
    go_wp2
    go_ret
    exact ⟨t1, wk HB.out⟩
/-! ### sr21Inverse: function 80 -/
def sr21Inverse.f (a0_0 : Int) (a0_1 : ByteArray) (a0_2 : ByteArray) : Option (Int × ByteArray × ByteArray) := some (a0_0, a0_2, a0_1)
set_option maxHeartbeats 8000000 in
set_option maxRecDepth 100000 in
theorem sr21Inverse.calls (a0_0 : Int) (a0_1 : ByteArray) (a0_2 : ByteArray) (r1 : Int) (r2 : ByteArray) (r3 : ByteArray) (w : World) (h : sr21Inverse.f a0_0 a0_1 a0_2 = some (r1, r2, r3)) :
  Calls Try.prog 80 #[.agg #[.int .i64 a0_0, .string a0_1, .string a0_2]] w fun e w' => e = .returned (.agg #[.int .i64 r1, .string r2, .string r3]) ∧ Below w.heap.size w w' := by
 have hu88 := Try.underlying88
 have HB := aS_ (Below.refl w.heap.size w)
 have H : (some (a0_0, a0_2, a0_1)) = some (r1, r2, r3) := h
 clear h
 simp only [Option.some.injEq, Prod.mk.injEq] at H
 obtain ⟨rfl, rfl, rfl⟩ := H
 go_enter Try.func80, Try.ntmps80
 go_wp2_with (first | (refine bx_ 1 #[.int .i64 a0_0, .string a0_1, .string a0_2] 88 ?_; intro gb248 hg w2 hbox hb; have BK248 := aS_ (hbox); have GW248 := ge_ hg (wk HB.out); have GE248 := ge_ hg (wk HB.out); replace HB := bw_ HB hb; clear hb hbox hg) | (refine bx_ 2 #[.int .i64 0, .string (⟨#[]⟩ : ByteArray), .string (⟨#[]⟩ : ByteArray)] 88 ?_; intro gb249 hg w3 hbox hb; have BK249 := aS_ (hbox); have GW249 := ge_ hg (wk HB.out); have GE249 := ge_ hg (wk HB.out); replace HB := bw_ HB hb; have NB248_249 := nq_ hg (bk BK248.out); replace BK248 := bb_ BK248 hb; have NB249_248 := nr_ NB248_249; clear hb hbox hg; have hnb4 := NB248_249.out; have hnc4 := NB249_248.out; obtain ⟨hcz5_0, hcz5_1, hcz5_2, hfz5_0, hfz5_1, hfz5_2⟩ := c3_ BK248.out; obtain ⟨hcz6_0, hcz6_1, hcz6_2, hfz6_0, hfz6_1, hfz6_2⟩ := c3_ BK249.out))
 refine bodyPost_ret (results_cell_row rfl _ _ gb249 88 #[.int .i64 a0_0, .string a0_2, .string a0_1] (0, 0) _ rfl (bp BK249.out) Try.underlying88 rfl (by kernel_rfl)) rfl ?_
 exact ⟨t1, wk HB.out⟩
/-! ### sr23Inverse: function 51 -/
def sr23Inverse.l0 : Nat → Int → List (S88) → List (S88) → Option ((List (S88)))
 | 0, _, _, _ => none
 | k + 1, x4, x251000, x253000 => if x4 ≥ 0 then (if 0 ≤ x4 then (if x4 < (x251000.length : Int) then ((sr21Inverse.f ((rd_T88 x251000 x4).f0) ((rd_T88 x251000 x4).f1) ((rd_T88 x251000 x4).f2)).bind fun bt254 => (if x253000.length < 3518437208883 then (sr23Inverse.l0 k (wrap64 (x4 - 1)) x251000 (x253000 ++ [(⟨bt254.1, bt254.2.1, bt254.2.2⟩ : S88)])) else (none))) else (none)) else (none)) else (some x253000)
def sr23Inverse.f (k : Nat) (l0_0 : List (S88)) : Option ((List (S88))) := sr23Inverse.l0 k (wrap64 ((l0_0.length : Int) - 1)) l0_0 ([] : List (S88))
def sr23Inverse.T5 : Bool × List (List Nat × List Nat) := (true, [([], []), ([0], [0]), ([], []), ([2], [2]), ([], []), ([3, 4], [3, 4]), ([5], [5]), ([6], [6]), ([7], [7]), ([1, 8, 7], [1, 8]), ([0, 1, 2, 3, 4, 5, 6, 7, 8, 9], []), ([10, 9, 9, 0, 1, 2, 3, 4, 5, 6, 7, 8, 9], [9, 10])])
def sr23Inverse.B5 : List Nat := [0, 1, 0, 4, 0, 28, 60, 124, 252, 511, 1023, 2047]
theorem sr23Inverse.tab5 : rtab .any (opsOf Try.f51 5) = sr23Inverse.T5 := by kernel_rfl
theorem sr23Inverse.bits5 : waitsOk sr23Inverse.T5.2 sr23Inverse.B5 = true := by kernel_rfl
set_option maxHeartbeats 8000000 in
set_option maxRecDepth 100000 in
theorem sr23Inverse.calls (k : Nat) (A0_0 : Option Addr) (c0_0 : Nat) (l0_0 : List (S88)) (r : List (S88)) (w : World) (hr0_0 : Kd.C k88 w A0_0 l0_0.length l0_0) (hc0_0 : l0_0.length ≤ c0_0) (h : sr23Inverse.f k l0_0 = some r) :
  Calls Try.prog 51 #[.agg #[.slice A0_0 l0_0.length c0_0]] w fun e w' => ∃ v0_ : Value, e = .returned (.agg #[v0_]) ∧ Kd.R k88 88 w' w.heap.size (fun _ => True) v0_ r ∧ Below w.heap.size w w' := by
 have hu38 := Try.underlying38
 have hu88 := Try.underlying88
 have HR0_0 := aS_ hr0_0
 have HC0_0 := aS_ hc0_0
 clear hr0_0 hc0_0
 have HB := aS_ (Below.refl w.heap.size w)
 have H : (sr23Inverse.l0 k (wrap64 ((l0_0.length : Int) - 1)) l0_0 ([] : List (S88))) = some r := h
 clear h
 have H' := aS_ H
 clear H
 go_enter Try.func51, Try.ntmps51
 go_wp2_with (first | (refine bx_ 1 #[.slice A0_0 l0_0.length c0_0] 38 ?_; intro gb250 hg w2 hbox hb; have BK250 := aS_ (hbox); have GW250 := ge_ hg (wk HB.out); have GE250 := ge_ hg (wk HB.out); replace HB := bw_ HB hb; clear hb hbox hg) | (refine bx_ 2 #[.slice none 0 0] 38 ?_; intro gb251 hg w3 hbox hb; have BK251 := aS_ (hbox); have GW251 := ge_ hg (wk HB.out); have GE251 := ge_ hg (wk HB.out); replace HB := bw_ HB hb; have NB250_251 := nq_ hg (bk BK250.out); replace BK250 := bb_ BK250 hb; have NB251_250 := nr_ NB250_251; clear hb hbox hg) | (refine bx_ 3 #[.slice none 0 0] 38 ?_; intro gb252 hg w4 hbox hb; have BK252 := aS_ (hbox); have GW252 := ge_ hg (wk HB.out); have GE252 := ge_ hg (wk HB.out); replace HB := bw_ HB hb; have NB250_252 := nq_ hg (bk BK250.out); replace BK250 := bb_ BK250 hb; have NB252_250 := nr_ NB250_252; have NB251_252 := nq_ hg (bk BK251.out); replace BK251 := bb_ BK251 hb; have NB252_251 := nr_ NB251_252; clear hb hbox hg; have hnb5 := NB250_251.out; have hnc5 := NB251_250.out; have hnb6 := NB250_252.out; have hnc6 := NB252_250.out; obtain ⟨hcz7_0, hfz7_0⟩ := c1_ BK250.out))
 go_loopg [4] k (fun kq v4 w' => ∃ (x4_1 : Int) (x253000_1 : List (S88)) (u253000 : Value), v4 = .int .i64 x4_1 ∧ Aside0 (sr23Inverse.l0 kq x4_1 l0_0 x253000_1 = some r) ∧ Aside0 (kq ≤ k) ∧ Aside0 (Kd.R k88 88 w' w.heap.size (fun _ => True) u253000 x253000_1) ∧ Aside0 (w'.heap[gb250]? = some (.cells #[(.slice A0_0 l0_0.length c0_0)] 38 (0, 0))) ∧ Aside0 (w'.heap[gb251]? = some (.cells #[(.slice none 0 0)] 38 (0, 0))) ∧ Aside0 (w'.heap[gb252]? = some (.cells #[u253000] 38 (0, 0))) ∧ Aside0 (Below w.heap.size w w'))
 case atStart => exact ⟨(wrap64 ((l0_0.length : Int) - 1)), (([] : List (S88))), (.slice none 0 0), t0, H', ⟨Nat.le_refl _⟩, ⟨by first | exact Kd.R_nil _ _ _ _ _ | exact Kd.N_nil _ _ _ _ _ | exact Kd.V_nil _ _ _ _ _ | exact Kd.Q_nil _ _ _ _ _ | exact Kd.S_nil _ _ _ _ _⟩, ⟨bq BK250.out⟩, ⟨bq BK251.out⟩, ⟨bq BK252.out⟩, ⟨wk HB.out⟩⟩
 case round =>
  clear H'
  try clear p2
  try clear c5
  try clear c6
  try clear p6
  try clear hcz7_0 hfz7_0
  obtain ⟨x4_1, x253000_1, u253000, rfl, HA, HK1, HO_253000, BK250, BK251, BK252, HB⟩ := hrel
  cases gk with
  | zero => exact absurd HA.out (by simp [sr23Inverse.l0])
  | succ k1 =>
   have H := HA.out
   clear HA
   simp only [sr23Inverse.l0] at H
   by_cases c8 : x4_1 ≥ 0
   ·rw [if_pos c8] at H
    have c8b0 := decide_eq_true c8
    clear c8
    by_cases c9 : 0 ≤ x4_1
    ·rw [if_pos c9] at H
     have c9b0 := decide_eq_true c9
     clear c9
     by_cases c10 : x4_1 < (l0_0.length : Int)
     ·rw [if_pos c10] at H
      have c10b0 := decide_eq_true c10
      clear c10
      replace H := Option.bind_eq_some_iff.mp H
      obtain ⟨⟨t254, t255, t256⟩, A110, H⟩ := H
      try dsimp only at H
      have A11 := aS_ A110
      clear A110
      by_cases c12 : x253000_1.length < 3518437208883
      ·rw [if_pos c12] at H
       have LMc12 := aS_ c12
       clear c12
       obtain ⟨y257, hy257⟩ : ∃ y_ : List (S88), y_ = (x253000_1 ++ [(⟨t254, t255, t256⟩ : S88)]) := ⟨_, rfl⟩
       replace H : (sr23Inverse.l0 k1 (wrap64 (x4_1 - 1)) l0_0 y257) = some r := by first | (rw [hy257]; with_reducible exact H) | (have H2_ := (Option.bind_some _ _).symm.trans H; rw [hy257]; with_reducible exact H2_) | (have H2_ := (Option.bind_some _ _).symm.trans H; with_reducible exact H2_) | with_reducible exact H | (rw [hy257]; exact H) | exact H
       have Ny257 := aS_ hy257
       clear hy257
       have H' := aS_ H
       clear H
       try go_wp2
       have n0_ := aS_ (Kd.R_drew HO_253000.out)
       have n1_ := aS_ (bD BK250.out)
       have n2_ := aS_ (bD BK251.out)
       have n3_ := aS_ (bD BK252.out)
       have n4_ := aS_ (w1_ HB.out)
       clear HO_253000
       clear BK250
       clear BK251
       clear BK252
       clear HB
       have HO_253000 := n0_
       have BK250 := n1_
       have BK251 := n2_
       have BK252 := n3_
       have HB := n4_
       clear n0_ n1_ n2_ n3_ n4_
       have p253 : 0 ≤ (x4_1 : Int) := of_decide_eq_true (by first | (with_reducible assumption) | assumption)
       have q253 : x4_1 < (l0_0.length : Int) := of_decide_eq_true (by first | (with_reducible assumption) | assumption)
       obtain ⟨ad253, e253, hx253_0, hx253_1, hx253_2⟩ := at_T88 HR0_0.out x4_1 p253 q253
       have hw253_2 := hx253_2
       have hw253_1 := hx253_1
       have hw253_0 := hx253_0
       cases e253
       replace hx253_0 := (HB.out.cell (World.block_lt_of_cell? w _ hx253_0)).trans hx253_0
       replace hx253_1 := (HB.out.cell (World.block_lt_of_cell? w _ hx253_1)).trans hx253_1
       replace hx253_2 := (HB.out.cell (World.block_lt_of_cell? w _ hx253_2)).trans hx253_2
       replace p253 := eq_true p253
       replace q253 := eq_true q253
       refine start_ (n := 12) (S := fun w' => w'.cell? ⟨gb252, 0, none⟩ = some (u253000) ∧ w'.cell? ⟨gb250, 0, none⟩ = some (.slice (some ad253) l0_0.length c0_0) ∧ w'.cell? (ad253.add ((x4_1).toNat * 3)) = some (.int .i64 ((rd_T88 l0_0 x4_1).f0)) ∧ w'.cell? ⟨(ad253.add ((x4_1).toNat * 3)).block, (ad253.add ((x4_1).toNat * 3)).off + 1, none⟩ = some (.string ((rd_T88 l0_0 x4_1).f1)) ∧ w'.cell? ⟨(ad253.add ((x4_1).toNat * 3)).block, (ad253.add ((x4_1).toNat * 3)).off + 2, none⟩ = some (.string ((rd_T88 l0_0 x4_1).f2))) (ds := [11]) #[false, false, false, false, false, false, false, false, false, false, false, false] (by kernel_rfl) rfl rfl ⟨(blk_cell BK252.out 0).trans rfl, (blk_cell BK250.out 0).trans rfl, ((HB.out.cell (World.block_lt_of_cell? w _ hw253_0)).trans hw253_0), ((HB.out.cell (World.block_lt_of_cell? w _ hw253_1)).trans hw253_1), ((HB.out.cell (World.block_lt_of_cell? w _ hw253_2)).trans hw253_2)⟩ (fun hHeld => ?_); refine with_tabW sr23Inverse.tab5 sr23Inverse.bits5 (fun HT_ HW_ => ?_)
       generalize wr.drew = w13 at HO_253000 BK250 BK251 BK252 HB hx253_0 hx253_1 hx253_2 hHeld ⊢
       refine pure_ (i := 0) (N := some 13) (v := ?_) (a' := ?_) #[true, false, false, false, false, false, false, false, false, false, false, false] rfl rfl (any_of HT_.out (by kernel_rfl)) (fun _ _ _ h => h) (Or.inl ⟨by rfl, ?_⟩) ?_ ?_
       rotate_left
       ·intro w'
        go_simp
        with_reducible rfl
       rotate_left
       ·simp only [Act.put, List.setIfInBounds_toArray, List.set_cons_zero, List.set_cons_succ, i64_w, i32_w]
        rfl
       refine pure_ (i := 2) (N := some 15) (v := ?_) (a' := ?_) #[true, false, true, false, false, false, false, false, false, false, false, false] rfl rfl (any_of HT_.out (by kernel_rfl)) (fun _ _ _ h => h) (Or.inl ⟨by rfl, ?_⟩) ?_ ?_
       rotate_left
       ·intro w'
        go_simp
        with_reducible rfl
       rotate_left
       ·simp only [Act.put, List.setIfInBounds_toArray, List.set_cons_zero, List.set_cons_succ, i64_w, i32_w]
        rfl
       refine pure_ (i := 4) (N := some 17) (v := ?_) (a' := ?_) #[true, false, true, false, true, false, false, false, false, false, false, false] rfl rfl (any_of HT_.out (by kernel_rfl)) (fun _ _ _ h => h) (Or.inl ⟨by rfl, ?_⟩) ?_ ?_
       rotate_left
       ·intro w'
        go_simp
        with_reducible rfl
       rotate_left
       ·simp only [Act.put, List.setIfInBounds_toArray, List.set_cons_zero, List.set_cons_succ, i64_w, i32_w]
        rfl
       refine take_ (i := 1) (N := some 14) (v := ?_) (a' := ?_) #[true, true, true, false, true, false, false, false, false, false, false, false] rfl rfl (take_ofW HT_.out HW_.out (by kernel_rfl)) (fun _ _ _ h => h) (Or.inl ⟨by rfl, ?_⟩) hHeld ?_ ?_
       rotate_left
       ·rintro w' ⟨s0, s1, s2, s3, s4⟩
        go_simp
        with_reducible rfl
       rotate_left
       ·simp only [Act.put, List.setIfInBounds_toArray, List.set_cons_zero, List.set_cons_succ, i64_w, i32_w]
        rfl
       refine take_ (i := 3) (N := some 16) (v := ?_) (a' := ?_) #[true, true, true, true, true, false, false, false, false, false, false, false] rfl rfl (take_ofW HT_.out HW_.out (by kernel_rfl)) (fun _ _ _ h => h) (Or.inl ⟨by rfl, ?_⟩) hHeld ?_ ?_
       rotate_left
       ·rintro w' ⟨s0, s1, s2, s3, s4⟩
        go_simp
        with_reducible rfl
       rotate_left
       ·simp only [Act.put, List.setIfInBounds_toArray, List.set_cons_zero, List.set_cons_succ, i64_w, i32_w]
        rfl
       refine pure_ (i := 5) (N := some 18) (v := ?_) (a' := ?_) #[true, true, true, true, true, true, false, false, false, false, false, false] rfl rfl (any_of HT_.out (by kernel_rfl)) (fun _ _ _ h => h) (Or.inl ⟨by rfl, ?_⟩) ?_ ?_
       rotate_left
       ·intro w'
        go_simp
        with_reducible rfl
       rotate_left
       ·simp only [Act.put, List.setIfInBounds_toArray, List.set_cons_zero, List.set_cons_succ, i64_w, i32_w]
        rfl
       refine take_ (i := 6) (N := some 19) (v := ?_) (a' := ?_) #[true, true, true, true, true, true, true, false, false, false, false, false] rfl rfl (take_ofW HT_.out HW_.out (by kernel_rfl)) (fun _ _ _ h => h) (Or.inl ⟨by rfl, ?_⟩) hHeld ?_ ?_
       rotate_left
       ·rintro w' ⟨s0, s1, s2, s3, s4⟩
        go_simp
        with_reducible rfl
       rotate_left
       ·simp only [Act.put, List.setIfInBounds_toArray, List.set_cons_zero, List.set_cons_succ, i64_w, i32_w]
        rfl
       refine one_ (i := 7) (N := some 20) #[true, true, true, true, true, true, true, true, false, false, false, false] rfl rfl (one_of HT_.out (by kernel_rfl)) (by decide) (fun K hK => ?_)
       refine goes_ Try.func80 (by kernel_rfl) rfl #[.agg #[.int .i64 ((rd_T88 l0_0 x4_1).f0), .string ((rd_T88 l0_0 x4_1).f1), .string ((rd_T88 l0_0 x4_1).f2)]] (by rfl) rfl rfl (by (try simp only [List.map_toArray, List.map_cons, List.map_nil]); first | done | rfl | (simp only [List.length_drop, List.length_take]; rfl)) ?_
       with_reducible refine (sr21Inverse.calls ((rd_T88 l0_0 x4_1).f0) ((rd_T88 l0_0 x4_1).f1) ((rd_T88 l0_0 x4_1).f2) t254 t255 t256 _ A11.out).mono ?_
       rintro e w14 ⟨rfl, hb⟩
       refine ⟨_, rfl, ?_⟩
       have n0_ := rb_ HO_253000 hb
       have n1_ := bb_ BK250 hb
       have n2_ := bb_ BK251 hb
       have n3_ := bb_ BK252 hb
       have n4_ := bw_ HB hb
       clear HO_253000
       clear BK250
       clear BK251
       clear BK252
       clear HB
       have HO_253000 := n0_
       have BK250 := n1_
       have BK251 := n2_
       have BK252 := n3_
       have HB := n4_
       clear n0_ n1_ n2_ n3_ n4_
       (try clear hb)
       (try clear hb2)
       (try clear hk)
       (try clear hi)
       refine hK.out _ _ ⟨(blk_cell BK252.out 0).trans rfl, (blk_cell BK250.out 0).trans rfl, ((HB.out.cell (World.block_lt_of_cell? w _ hw253_0)).trans hw253_0), ((HB.out.cell (World.block_lt_of_cell? w _ hw253_1)).trans hw253_1), ((HB.out.cell (World.block_lt_of_cell? w _ hw253_2)).trans hw253_2)⟩ (fun hHeld => ?_)
       clear hK K
       refine norm_ (a' := ?_) ?_ ?_
       rotate_left
       ·show Act.put _ (some 20) _ = _
        simp only [Act.put, List.setIfInBounds_toArray, List.set_cons_zero, List.set_cons_succ, i64_w, i32_w]
        rfl
       refine one_ (i := 8) (N := some 21) #[true, true, true, true, true, true, true, true, true, false, false, false] rfl rfl (one_of HT_.out (by kernel_rfl)) (by decide) (fun K hK => ?_)
       refine value_ (w1 := ?_) (v := ?_) (by rfl) rfl ?_ ?_
       rotate_left 2
       ·go_simp
        constructor
        ·rfl
        ·rfl
       refine hK.out _ _ ⟨(blk_cell (bA BK252.out _) 0).trans rfl, (blk_cell (bA BK250.out _) 0).trans rfl, (World.cell?_alloc_lt _ _ _ (World.block_lt_of_cell? _ _ (((HB.out.cell (World.block_lt_of_cell? w _ hw253_0)).trans hw253_0)))).trans (((HB.out.cell (World.block_lt_of_cell? w _ hw253_0)).trans hw253_0)), (World.cell?_alloc_lt _ _ _ (World.block_lt_of_cell? _ _ (((HB.out.cell (World.block_lt_of_cell? w _ hw253_1)).trans hw253_1)))).trans (((HB.out.cell (World.block_lt_of_cell? w _ hw253_1)).trans hw253_1)), (World.cell?_alloc_lt _ _ _ (World.block_lt_of_cell? _ _ (((HB.out.cell (World.block_lt_of_cell? w _ hw253_2)).trans hw253_2)))).trans (((HB.out.cell (World.block_lt_of_cell? w _ hw253_2)).trans hw253_2))⟩ (fun hHeld => ?_)
       clear hK K
       refine norm_ (a' := ?_) ?_ ?_
       rotate_left
       ·show Act.put _ (some 21) _ = _
        simp only [Act.put, List.setIfInBounds_toArray, List.set_cons_zero, List.set_cons_succ, i64_w, i32_w]
        rfl
       refine one_ (i := 9) (N := some 22) #[true, true, true, true, true, true, true, true, true, true, false, false] rfl rfl (one_of HT_.out (by kernel_rfl)) (by decide) (fun K hK => ?_)
       refine Kd.R_append_step k88 (w0 := w) w.heap.size (by rfl) (.tmp 14) (.tmp 21) 24 88 (.agg #[(.int .i64 0), (.string ⟨#[]⟩), (.string ⟨#[]⟩)]) 40 rfl Try.underlying24 info88 rfl (by decide) (by omega) u253000 x253000_1 (⟨t254, t255, t256⟩ : S88) [.int .i64 t254, .string t255, .string t256] (fun _ => True) (fun _ => False) rfl rfl ?aP (fun _ hk => hk.elim) ?aF ?aO ?aB ?aS ?aL ?_
       (case aP => exact k88_mkM _ _ _ (⟨t254, t255, t256⟩ : S88))
       (case aB => exact (wk HB.out))
       (case aF => exact (fun _ _ => trivial))
       (case aO => exact (rk HO_253000.out))
       (case aS => exact (below_size (wk HB.out)))
       (case aL => have := LMc12.out; omega)
       intro v258 w15 ho hb hg hat
       rw [← Ny257.out] at ho
       have n0_ := aS_ (blk_grown (g := gb250) (o := .cells #[.slice (some ad253) l0_0.length c0_0] 38 (0, 0)) (bk BK250.out) hg (Kd.R_ne HO_253000.out BK250.out (by decide)))
       have n1_ := aS_ (blk_grown (g := gb251) (o := .cells #[.slice none 0 0] 38 (0, 0)) (bk BK251.out) hg (Kd.R_ne HO_253000.out BK251.out (by decide)))
       have n2_ := aS_ (blk_grown (g := gb252) (o := .cells #[u253000] 38 (0, 0)) (bk BK252.out) hg (Kd.R_ne HO_253000.out BK252.out (by decide)))
       have n3_ := aS_ (hb)
       have n4_ := aS_ (ho)
       clear BK250
       clear BK251
       clear BK252
       clear HB
       clear HO_253000
       have BK250 := n0_
       have BK251 := n1_
       have BK252 := n2_
       have HB := n3_
       have HO259 := n4_
       clear n0_ n1_ n2_ n3_ n4_
       clear ho hb hg hat
       obtain ⟨Ao16, co16, eo16⟩ := Kd.R_slice HO259.out
       (first | subst eo16 | (injection eo16 with f1_ f2_ f3_; have f4_ := f1_.symm; have f5_ := f3_.symm; clear f1_ f2_ f3_; subst f4_; subst f5_))
       refine hK.out _ _ ⟨(blk_cell BK252.out 0).trans rfl, (blk_cell BK250.out 0).trans rfl, ((HB.out.cell (World.block_lt_of_cell? w _ hw253_0)).trans hw253_0), ((HB.out.cell (World.block_lt_of_cell? w _ hw253_1)).trans hw253_1), ((HB.out.cell (World.block_lt_of_cell? w _ hw253_2)).trans hw253_2)⟩ (fun hHeld => ?_)
       clear hK K
       refine norm_ (a' := ?_) ?_ ?_
       rotate_left
       ·show Act.put _ (some 22) _ = _
        simp only [Act.put, List.setIfInBounds_toArray, List.set_cons_zero, List.set_cons_succ, i64_w, i32_w]
        rfl
       refine pure_ (i := 10) (N := some 23) (v := ?_) (a' := ?_) #[true, true, true, true, true, true, true, true, true, true, true, false] rfl rfl (any_of HT_.out (by kernel_rfl)) (fun _ _ _ h => h) (Or.inl ⟨by rfl, ?_⟩) ?_ ?_
       rotate_left
       ·intro w'
        go_simp
        with_reducible rfl
       rotate_left
       ·simp only [Act.put, List.setIfInBounds_toArray, List.set_cons_zero, List.set_cons_succ, i64_w, i32_w]
        rfl
       refine last_ (i := 11) (N := none) #[true, true, true, true, true, true, true, true, true, true, true, true] rfl rfl (one_of HT_.out (by kernel_rfl)) (by decide) (fun K hK => ?_)
       have hs17 : w15.cell? ⟨gb252, 0, none⟩ = some (u253000) := (blk_cell BK252.out 0).trans rfl
       have hfs17 := blk_frozen BK252.out 0
       have hns17_0 := NB250_252.out
       have hns17_1 := NB251_252.out
       have hms17_0 := NB252_250.out
       have hms17_1 := NB252_251.out
       refine skip_ (w1 := ?_) (by rfl) rfl ?_ ?_
       rotate_left
       ·go_simp
        rfl
       refine hK.out _ _ ?_
       clear hK K
       refine done_ (done_of HT_.out (by kernel_rfl)) ?_
       try go_wp2
       go_roundg k1
       case measure => have := HK1.out; omega
       case rel => exact ⟨(wrap64 (x4_1 - 1)), (y257), (.slice Ao16 y257.length co16), t0, H', ⟨t2 HK1⟩, ⟨by (with_reducible repeat (first | apply Kd.R_alloc | apply Kd.R_drewN | apply Kd.R_drew)); exact Kd.R_mono (Kd.R_far (p := ⟨gb252, 0, none⟩) (Kd.R_types HO259.out BK252.out (by decide)) (fun _ hk => hk.2) (.slice Ao16 y257.length co16)) (fun _ hk => trivial)⟩, ⟨bq BK250.out⟩, ⟨bq BK251.out⟩, ⟨bp BK252.out⟩, ⟨wk HB.out⟩⟩
      ·rw [if_neg c12] at H
       exact absurd H (by simp)
     ·rw [if_neg c10] at H
      exact absurd H (by simp)
    ·rw [if_neg c9] at H
     exact absurd H (by simp)
   ·rw [if_neg c8] at H
    have c8b0 := decide_eq_false c8
    clear c8
    obtain rfl := Option.some.inj H
    have hnb18 := NB252_250.out
    have hnc18 := NB250_252.out
    have hnb19 := NB252_251.out
    have hnc19 := NB251_252.out
    obtain ⟨hcz20_0, hfz20_0⟩ := c1_ BK252.out
    obtain ⟨Ao21, co21, eo21⟩ := Kd.R_slice HO_253000.out
    subst eo21
    have hnb22 := NB251_250.out
    have hnc22 := NB250_251.out
    obtain ⟨hcz23_0, hfz23_0⟩ := c1_ BK251.out
    go_wp2
    refine bodyPost_ret (results_cell_row rfl _ _ gb251 38 #[.slice Ao21 x253000_1.length co21] (0, 0) _ rfl (bp BK251.out) Try.underlying38 rfl (by kernel_rfl)) rfl ?_
    exact ⟨_, t1, by (with_reducible repeat (first | apply Kd.R_alloc | apply Kd.R_drewN | apply Kd.R_drew)); exact Kd.R_mono (Kd.R_far (p := ⟨gb251, 0, none⟩) (Kd.R_types HO_253000.out BK251.out (by decide)) (fun _ hk => hk.2) (.slice Ao21 x253000_1.length co21)) (fun _ hk => trivial), wk HB.out⟩
end Go.Proofs.Ytnndanfghlnpfaa.P
