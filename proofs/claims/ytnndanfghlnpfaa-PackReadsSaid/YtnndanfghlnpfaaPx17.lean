import Derived.Test.YtnndanfghlnpfaaPx0
import Derived.Test.YtnndanfghlnpfaaPx15
import Derived.Test.YtnndanfghlnpfaaPx16
namespace Go.Proofs.Ytnndanfghlnpfaa.P
open Go.RowKit Go.Proofs.YtnndanfghlnpfaaW.PrintWords Go.Proofs.YtnndanfghlnpfaaW.PrintLast Go.Proofs.YtnndanfghlnpfaaW.PrintMore
attribute [local go_sem] max2_int min2_int max_two min_two max_three min_three max_four min_four   -- for this text's walks alone
set_option linter.unusedVariables false
set_option linter.unusedSimpArgs false
/-! ### sr23Right: function 52 -/
def sr23Right.f (k : Nat) (a0 : ByteArray) (l1_0 : List (S88)) : Option (Bool) := (sr23Run.f k a0 l1_0).bind fun bt270 => (if (l1_0.length : Int) ≥ 1 then (if (l1_0.length : Int) ≤ 32 then (some (bt270.2 == 0)) else (some false)) else (some false))
set_option maxHeartbeats 8000000 in
set_option maxRecDepth 100000 in
theorem sr23Right.calls (k : Nat) (a0 : ByteArray) (A1_0 : Option Addr) (c1_0 : Nat) (l1_0 : List (S88)) (r : Bool) (w : World) (hr1_0 : Kd.C k88 w A1_0 l1_0.length l1_0) (hc1_0 : l1_0.length ≤ c1_0) (h : sr23Right.f k a0 l1_0 = some r) :
  Calls Try.prog 52 #[.string a0, .agg #[.slice A1_0 l1_0.length c1_0]] w fun e w' => e = .returned (.bool r) ∧ Below w.heap.size w w' := by
 have hu38 := Try.underlying38
 have HR1_0 := aS_ hr1_0
 have HC1_0 := aS_ hc1_0
 clear hr1_0 hc1_0
 have HB := aS_ (Below.refl w.heap.size w)
 have H : ((sr23Run.f k a0 l1_0).bind fun bt270 => (if (l1_0.length : Int) ≥ 1 then (if (l1_0.length : Int) ≤ 32 then (some (bt270.2 == 0)) else (some false)) else (some false))) = some r := h
 clear h
 replace H := Option.bind_eq_some_iff.mp H
 obtain ⟨⟨t270, t271⟩, A30, H⟩ := H
 try dsimp only at H
 have A3 := aS_ A30
 clear A30
 by_cases c4 : (l1_0.length : Int) ≥ 1
 ·rw [if_pos c4] at H
  have c4b0 := decide_eq_true c4
  have c4b1 : decide (1 ≤ l1_0.length) = true := decide_eq_true (by omega)
  clear c4
  by_cases c5 : (l1_0.length : Int) ≤ 32
  ·rw [if_pos c5] at H
   have c5b0 := decide_eq_true c5
   have c5b1 : decide (l1_0.length ≤ 32) = true := decide_eq_true (by omega)
   clear c5
   obtain rfl := Option.some.inj H
   go_enter Try.func52, Try.ntmps52
   go_wp2_with (first | ((with_reducible refine gate_dst (N := 3) rfl ?_); (try (refine gate_guard (by rfl) ?_; dsimp only)); refine bx_ 3 #[.slice A1_0 l1_0.length c1_0] 38 ?_; intro gb269 hg w6 hbox hb; have BK269 := aS_ (hbox); have GW269 := ge_ hg (wk HB.out); have GE269 := ge_ hg (wk HB.out); replace HB := bw_ HB hb; clear hb hbox hg; obtain ⟨hcz7_0, hfz7_0⟩ := c1_ BK269.out) | (refine cl_ (some 10) Try.func53 #[.string a0, .agg #[.slice A1_0 l1_0.length c1_0]] ?_; (with_reducible refine (sr23Run.calls k a0 _ _ l1_0 t270 t271 _ ?side1 ?side2 A3.out).mono ?_); (case side1 => repeat (first | exact (Kd.C_below HR1_0.out HB.out) | (with_reducible refine Kd.C_alloc ?_ _) | (with_reducible refine Kd.C_drewN ?_ _) | (with_reducible refine Kd.C_drew ?_))); (case side2 => exact HC1_0.out); rintro e w8 ⟨rfl, hb⟩; refine ⟨_, rfl, ?_⟩; replace BK269 := bb_ BK269 hb; replace HB := bw_ HB hb; try clear hb; obtain ⟨hcz9_0, hfz9_0⟩ := c1_ BK269.out))
   go_ret
   exact ⟨t1, wk HB.out⟩
  ·rw [if_neg c5] at H
   have c5b0 := decide_eq_false c5
   have c5b1 : decide (l1_0.length ≤ 32) = false := decide_eq_false (by omega)
   clear c5
   obtain rfl := Option.some.inj H
   go_enter Try.func52, Try.ntmps52
   go_wp2_with (first | ((with_reducible refine gate_dst (N := 3) rfl ?_); (try (refine gate_guard (by rfl) ?_; dsimp only)); refine bx_ 3 #[.slice A1_0 l1_0.length c1_0] 38 ?_; intro gb269 hg w10 hbox hb; have BK269 := aS_ (hbox); have GW269 := ge_ hg (wk HB.out); have GE269 := ge_ hg (wk HB.out); replace HB := bw_ HB hb; clear hb hbox hg; obtain ⟨hcz11_0, hfz11_0⟩ := c1_ BK269.out) | (refine cl_ (some 10) Try.func53 #[.string a0, .agg #[.slice A1_0 l1_0.length c1_0]] ?_; (with_reducible refine (sr23Run.calls k a0 _ _ l1_0 t270 t271 _ ?side1 ?side2 A3.out).mono ?_); (case side1 => repeat (first | exact (Kd.C_below HR1_0.out HB.out) | (with_reducible refine Kd.C_alloc ?_ _) | (with_reducible refine Kd.C_drewN ?_ _) | (with_reducible refine Kd.C_drew ?_))); (case side2 => exact HC1_0.out); rintro e w12 ⟨rfl, hb⟩; refine ⟨_, rfl, ?_⟩; replace BK269 := bb_ BK269 hb; replace HB := bw_ HB hb; try clear hb; obtain ⟨hcz13_0, hfz13_0⟩ := c1_ BK269.out))
   go_ret
   exact ⟨t1, wk HB.out⟩
 ·rw [if_neg c4] at H
  have c4b0 := decide_eq_false c4
  have c4b1 : decide (1 ≤ l1_0.length) = false := decide_eq_false (by omega)
  clear c4
  obtain rfl := Option.some.inj H
  go_enter Try.func52, Try.ntmps52
  go_wp2_with (first | ((with_reducible refine gate_dst (N := 3) rfl ?_); (try (refine gate_guard (by rfl) ?_; dsimp only)); refine bx_ 3 #[.slice A1_0 l1_0.length c1_0] 38 ?_; intro gb269 hg w14 hbox hb; have BK269 := aS_ (hbox); have GW269 := ge_ hg (wk HB.out); have GE269 := ge_ hg (wk HB.out); replace HB := bw_ HB hb; clear hb hbox hg; obtain ⟨hcz15_0, hfz15_0⟩ := c1_ BK269.out) | (refine cl_ (some 10) Try.func53 #[.string a0, .agg #[.slice A1_0 l1_0.length c1_0]] ?_; (with_reducible refine (sr23Run.calls k a0 _ _ l1_0 t270 t271 _ ?side1 ?side2 A3.out).mono ?_); (case side1 => repeat (first | exact (Kd.C_below HR1_0.out HB.out) | (with_reducible refine Kd.C_alloc ?_ _) | (with_reducible refine Kd.C_drewN ?_ _) | (with_reducible refine Kd.C_drew ?_))); (case side2 => exact HC1_0.out); rintro e w16 ⟨rfl, hb⟩; refine ⟨_, rfl, ?_⟩; replace BK269 := bb_ BK269 hb; replace HB := bw_ HB hb; try clear hb; obtain ⟨hcz17_0, hfz17_0⟩ := c1_ BK269.out))
  go_ret
  exact ⟨t1, wk HB.out⟩
/-! ### sr24Undoes: function 54 -/
def sr24Undoes.l0 : Nat → ByteArray → List (S38) → Int → Option (Bool)
 | 0, _, _, _ => none
 | k + 1, x0, x1, x5 => if x5 ≥ 0 then (if 0 ≤ x5 then (if x5 < (x1.length : Int) then ((sr23Inverse.f k ((rd_T38 x1 x5).f0)).bind fun t273 => ((sr23Right.f k x0 t273).bind fun t277 => (if t277 = true then ((sr23Run.f k x0 t273).bind fun bt278 => (sr24Undoes.l0 k bt278.1 x1 (wrap64 (x5 - 1)))) else (some false)))) else (none)) else (none)) else (some (decide ((x1.length : Int) ≤ 16)))
def sr24Undoes.f (k : Nat) (a0 : ByteArray) (l1 : List (S38)) : Option (Bool) := sr24Undoes.l0 k a0 l1 (wrap64 ((l1.length : Int) - 1))
set_option maxHeartbeats 8000000 in
set_option maxRecDepth 100000 in
theorem sr24Undoes.calls (k : Nat) (a0 : ByteArray) (A1 : Option Addr) (c1 : Nat) (l1 : List (S38)) (r : Bool) (w : World) (hr1 : Kd.C k38 w A1 l1.length l1) (hc1 : l1.length ≤ c1) (h : sr24Undoes.f k a0 l1 = some r) :
  Calls Try.prog 54 #[.string a0, .slice A1 l1.length c1] w fun e w' => e = .returned (.bool r) ∧ Below w.heap.size w w' := by
 have hu38 := Try.underlying38
 have HR1 := aS_ hr1
 have HC1 := aS_ hc1
 clear hr1 hc1
 have HB := aS_ (Below.refl w.heap.size w)
 have H : (sr24Undoes.l0 k a0 l1 (wrap64 ((l1.length : Int) - 1))) = some r := h
 clear h
 have H' := aS_ H
 clear H
 go_enter Try.func54, Try.ntmps54
 go_wp2
 go_loopg [0, 5] k (fun kq v0 v5 w' => ∃ (x0_1 : ByteArray) (x5_1 : Int), v0 = .string x0_1 ∧ v5 = .int .i64 x5_1 ∧ Aside0 (sr24Undoes.l0 kq x0_1 l1 x5_1 = some r) ∧ Aside0 (kq ≤ k) ∧ Aside0 (Below w.heap.size w w'))
 case atStart => exact ⟨(a0), (wrap64 ((l1.length : Int) - 1)), t0, t0, H', ⟨Nat.le_refl _⟩, ⟨wk HB.out⟩⟩
 case round =>
  clear H'
  try clear c1
  try clear p2
  obtain ⟨x0_1, x5_1, rfl, rfl, HA, HK1, HB⟩ := hrel
  cases gk with
  | zero => exact absurd HA.out (by simp [sr24Undoes.l0])
  | succ k1 =>
   have H := HA.out
   clear HA
   simp only [sr24Undoes.l0] at H
   by_cases c3 : x5_1 ≥ 0
   ·rw [if_pos c3] at H
    have c3b0 := decide_eq_true c3
    clear c3
    by_cases c4 : 0 ≤ x5_1
    ·rw [if_pos c4] at H
     have c4b0 := decide_eq_true c4
     clear c4
     by_cases c5 : x5_1 < (l1.length : Int)
     ·rw [if_pos c5] at H
      have c5b0 := decide_eq_true c5
      clear c5
      replace H := Option.bind_eq_some_iff.mp H
      obtain ⟨t273, A60, H⟩ := H
      try dsimp only at H
      have A6 := aS_ A60
      clear A60
      replace H := Option.bind_eq_some_iff.mp H
      obtain ⟨t277, A70, H⟩ := H
      try dsimp only at H
      have A7 := aS_ A70
      clear A70
      by_cases c8 : t277 = true
      ·subst c8
       rw [if_pos rfl] at H
       replace H := Option.bind_eq_some_iff.mp H
       obtain ⟨⟨t278, t279⟩, A90, H⟩ := H
       try dsimp only at H
       have A9 := aS_ A90
       clear A90
       have H' := aS_ H
       clear H
       have p272 : 0 ≤ (x5_1 : Int) := of_decide_eq_true (by first | (with_reducible assumption) | assumption)
       have q272 : x5_1 < (l1.length : Int) := of_decide_eq_true (by first | (with_reducible assumption) | assumption)
       obtain ⟨ad272, A272_0, c272_0, e272, hx272_0, hl272_0, hi272_0⟩ := at_T38 HR1.out x5_1 p272 q272
       cases e272
       replace hx272_0 := (HB.out.cell (World.block_lt_of_cell? w _ hx272_0)).trans hx272_0
       have HR272_0 := aS_ hi272_0
       have HC272_0 := aS_ hl272_0
       clear hi272_0 hl272_0
       replace p272 := eq_true p272
       replace q272 := eq_true q272
       go_wp2_with (first | (refine cl_ (some 18) Try.func51 #[.agg #[.slice A272_0 ((rd_T38 l1 x5_1).f0).length c272_0]] ?_; (with_reducible refine (sr23Inverse.calls k1 _ _ ((rd_T38 l1 x5_1).f0) t273 _ ?side1 ?side2 A6.out).mono ?_); (case side1 => repeat (first | exact (Kd.C_below HR272_0.out HB.out) | (with_reducible refine Kd.C_alloc ?_ _) | (with_reducible refine Kd.C_drewN ?_ _) | (with_reducible refine Kd.C_drew ?_))); (case side2 => exact HC272_0.out); rintro e w10 ⟨v274, rfl, ho0, hb⟩; refine ⟨_, rfl, ?_⟩; have HO275 := aS_ (Kd.R_lower ho0 (below_size (wk HB.out))); replace HB := bw_ HB hb; try clear hb; (try clear ho0)) | (refine bx_ 6 #[.slice none 0 0] 38 ?_; intro gb276 hg w11 hbox hb; replace HO275 := rb_ HO275 hb; have BK276 := aS_ (hbox); have GW276 := ge_ hg (wk HB.out); have GE276 := ge_ hg (wk HB.out); replace HB := bw_ HB hb; clear hb hbox hg; obtain ⟨Ao12, co12, eo12⟩ := Kd.R_slice HO275.out; subst eo12; obtain ⟨hcz13_0, hfz13_0⟩ := c1_ BK276.out) | (refine cl_ (some 21) Try.func52 #[.string x0_1, .agg #[.slice Ao12 t273.length co12]] ?_; (with_reducible refine (sr23Right.calls k1 x0_1 _ _ t273 true _ ?side1 ?side2 A7.out).mono ?_); (case side1 => refine (Kd.R_reads' (e := 88) (base := w.heap.size) (ok := fun k_ => True) (n := t273.length) (c := co12) ?_).2.2; exact (by (with_reducible repeat (first | apply Kd.R_alloc | apply Kd.R_drewN | apply Kd.R_drew)); exact (Kd.R_mono (Kd.R_far (p := ⟨gb276, 0, none⟩) (Kd.R_types HO275.out BK276.out (by decide)) (fun _ hk => hk.2) (.slice Ao12 t273.length co12)) (fun _ h_ => h_.1)))); (case side2 => exact (Kd.R_reads' HO275.out).2.1); rintro e w14 ⟨rfl, hb⟩; refine ⟨_, rfl, ?_⟩; replace HO275 := aS_ (Kd.R_below (by (with_reducible repeat (first | apply Kd.R_alloc | apply Kd.R_drewN | apply Kd.R_drew)); exact (Kd.R_mono (Kd.R_far (p := ⟨gb276, 0, none⟩) (Kd.R_types HO275.out BK276.out (by decide)) (fun _ hk => hk.2) (.slice Ao12 t273.length co12)) (fun _ h_ => h_.1))) hb); replace BK276 := aS_ (blk_below (g := gb276) (o := .cells #[.slice Ao12 t273.length co12] 38 (0, 0)) (bp BK276.out) hb); replace HB := bw_ HB hb; try clear hb; obtain ⟨hcz15_0, hfz15_0⟩ := c1_ BK276.out) | (refine cl_ (some 26) Try.func53 #[.string x0_1, .agg #[.slice Ao12 t273.length co12]] ?_; (with_reducible refine (sr23Run.calls k1 x0_1 _ _ t273 t278 t279 _ ?side1 ?side2 A9.out).mono ?_); (case side1 => repeat (first | exact (Kd.R_reads' HO275.out).2.2 | (with_reducible refine Kd.C_alloc ?_ _) | (with_reducible refine Kd.C_drewN ?_ _) | (with_reducible refine Kd.C_drew ?_))); (case side2 => exact (Kd.R_reads' HO275.out).2.1); rintro e w16 ⟨rfl, hb⟩; refine ⟨_, rfl, ?_⟩; replace HO275 := rb_ HO275 hb; replace BK276 := bb_ BK276 hb; replace HB := bw_ HB hb; try clear hb))
       go_roundg k1
       case measure => have := HK1.out; omega
       case rel => exact ⟨(t278), (wrap64 (x5_1 - 1)), t0, t0, H', ⟨t2 HK1⟩, ⟨wk HB.out⟩⟩
      ·replace c8 := Bool.eq_false_iff.mpr c8
       subst c8
       rw [if_neg Bool.false_ne_true] at H
       obtain rfl := Option.some.inj H
       have p272 : 0 ≤ (x5_1 : Int) := of_decide_eq_true (by first | (with_reducible assumption) | assumption)
       have q272 : x5_1 < (l1.length : Int) := of_decide_eq_true (by first | (with_reducible assumption) | assumption)
       obtain ⟨ad272, A272_0, c272_0, e272, hx272_0, hl272_0, hi272_0⟩ := at_T38 HR1.out x5_1 p272 q272
       cases e272
       replace hx272_0 := (HB.out.cell (World.block_lt_of_cell? w _ hx272_0)).trans hx272_0
       have HR272_0 := aS_ hi272_0
       have HC272_0 := aS_ hl272_0
       clear hi272_0 hl272_0
       replace p272 := eq_true p272
       replace q272 := eq_true q272
       go_wp2_with (first | (refine cl_ (some 18) Try.func51 #[.agg #[.slice A272_0 ((rd_T38 l1 x5_1).f0).length c272_0]] ?_; (with_reducible refine (sr23Inverse.calls k1 _ _ ((rd_T38 l1 x5_1).f0) t273 _ ?side1 ?side2 A6.out).mono ?_); (case side1 => repeat (first | exact (Kd.C_below HR272_0.out HB.out) | (with_reducible refine Kd.C_alloc ?_ _) | (with_reducible refine Kd.C_drewN ?_ _) | (with_reducible refine Kd.C_drew ?_))); (case side2 => exact HC272_0.out); rintro e w17 ⟨v274, rfl, ho0, hb⟩; refine ⟨_, rfl, ?_⟩; have HO275 := aS_ (Kd.R_lower ho0 (below_size (wk HB.out))); replace HB := bw_ HB hb; try clear hb; (try clear ho0)) | (refine bx_ 6 #[.slice none 0 0] 38 ?_; intro gb276 hg w18 hbox hb; replace HO275 := rb_ HO275 hb; have BK276 := aS_ (hbox); have GW276 := ge_ hg (wk HB.out); have GE276 := ge_ hg (wk HB.out); replace HB := bw_ HB hb; clear hb hbox hg; obtain ⟨Ao19, co19, eo19⟩ := Kd.R_slice HO275.out; subst eo19; obtain ⟨hcz20_0, hfz20_0⟩ := c1_ BK276.out) | (refine cl_ (some 21) Try.func52 #[.string x0_1, .agg #[.slice Ao19 t273.length co19]] ?_; (with_reducible refine (sr23Right.calls k1 x0_1 _ _ t273 false _ ?side1 ?side2 A7.out).mono ?_); (case side1 => refine (Kd.R_reads' (e := 88) (base := w.heap.size) (ok := fun k_ => True) (n := t273.length) (c := co19) ?_).2.2; exact (by (with_reducible repeat (first | apply Kd.R_alloc | apply Kd.R_drewN | apply Kd.R_drew)); exact (Kd.R_mono (Kd.R_far (p := ⟨gb276, 0, none⟩) (Kd.R_types HO275.out BK276.out (by decide)) (fun _ hk => hk.2) (.slice Ao19 t273.length co19)) (fun _ h_ => h_.1)))); (case side2 => exact (Kd.R_reads' HO275.out).2.1); rintro e w21 ⟨rfl, hb⟩; refine ⟨_, rfl, ?_⟩; replace HO275 := aS_ (Kd.R_below (by (with_reducible repeat (first | apply Kd.R_alloc | apply Kd.R_drewN | apply Kd.R_drew)); exact (Kd.R_mono (Kd.R_far (p := ⟨gb276, 0, none⟩) (Kd.R_types HO275.out BK276.out (by decide)) (fun _ hk => hk.2) (.slice Ao19 t273.length co19)) (fun _ h_ => h_.1))) hb); replace BK276 := aS_ (blk_below (g := gb276) (o := .cells #[.slice Ao19 t273.length co19] 38 (0, 0)) (bp BK276.out) hb); replace HB := bw_ HB hb; try clear hb))
       go_ret
       exact ⟨t1, wk HB.out⟩
     ·rw [if_neg c5] at H
      exact absurd H (by simp)
    ·rw [if_neg c4] at H
     exact absurd H (by simp)
   ·rw [if_neg c3] at H
    have c3b0 := decide_eq_false c3
    clear c3
    obtain rfl := Option.some.inj H
    go_wp2
    go_ret
    exact ⟨t1, wk HB.out⟩
/-! ### sr24Redoes: function 55 -/
def sr24Redoes.l0 : Nat → ByteArray → List (S38) → Int → Option (Bool)
 | 0, _, _, _ => none
 | k + 1, x0, x1, x5 => if x5 ≥ 0 then (if 0 ≤ x5 then (if x5 < (x1.length : Int) then ((sr23Right.f k x0 ((rd_T38 x1 x5).f0)).bind fun t281 => (if t281 = true then ((sr23Run.f k x0 ((rd_T38 x1 x5).f0)).bind fun bt283 => (sr24Redoes.l0 k bt283.1 x1 (wrap64 (x5 - 1)))) else (some false))) else (none)) else (none)) else (some (decide ((x1.length : Int) ≤ 16)))
def sr24Redoes.f (k : Nat) (a0 : ByteArray) (l1 : List (S38)) : Option (Bool) := sr24Redoes.l0 k a0 l1 (wrap64 ((l1.length : Int) - 1))
set_option maxHeartbeats 8000000 in
set_option maxRecDepth 100000 in
theorem sr24Redoes.calls (k : Nat) (a0 : ByteArray) (A1 : Option Addr) (c1 : Nat) (l1 : List (S38)) (r : Bool) (w : World) (hr1 : Kd.C k38 w A1 l1.length l1) (hc1 : l1.length ≤ c1) (h : sr24Redoes.f k a0 l1 = some r) :
  Calls Try.prog 55 #[.string a0, .slice A1 l1.length c1] w fun e w' => e = .returned (.bool r) ∧ Below w.heap.size w w' := by
 have hu38 := Try.underlying38
 have HR1 := aS_ hr1
 have HC1 := aS_ hc1
 clear hr1 hc1
 have HB := aS_ (Below.refl w.heap.size w)
 have H : (sr24Redoes.l0 k a0 l1 (wrap64 ((l1.length : Int) - 1))) = some r := h
 clear h
 have H' := aS_ H
 clear H
 go_enter Try.func55, Try.ntmps55
 go_wp2
 go_loopg [0, 5] k (fun kq v0 v5 w' => ∃ (x0_1 : ByteArray) (x5_1 : Int), v0 = .string x0_1 ∧ v5 = .int .i64 x5_1 ∧ Aside0 (sr24Redoes.l0 kq x0_1 l1 x5_1 = some r) ∧ Aside0 (kq ≤ k) ∧ Aside0 (Below w.heap.size w w'))
 case atStart => exact ⟨(a0), (wrap64 ((l1.length : Int) - 1)), t0, t0, H', ⟨Nat.le_refl _⟩, ⟨wk HB.out⟩⟩
 case round =>
  clear H'
  try clear c1
  try clear p2
  obtain ⟨x0_1, x5_1, rfl, rfl, HA, HK1, HB⟩ := hrel
  cases gk with
  | zero => exact absurd HA.out (by simp [sr24Redoes.l0])
  | succ k1 =>
   have H := HA.out
   clear HA
   simp only [sr24Redoes.l0] at H
   by_cases c3 : x5_1 ≥ 0
   ·rw [if_pos c3] at H
    have c3b0 := decide_eq_true c3
    clear c3
    by_cases c4 : 0 ≤ x5_1
    ·rw [if_pos c4] at H
     have c4b0 := decide_eq_true c4
     clear c4
     by_cases c5 : x5_1 < (l1.length : Int)
     ·rw [if_pos c5] at H
      have c5b0 := decide_eq_true c5
      clear c5
      replace H := Option.bind_eq_some_iff.mp H
      obtain ⟨t281, A60, H⟩ := H
      try dsimp only at H
      have A6 := aS_ A60
      clear A60
      by_cases c7 : t281 = true
      ·subst c7
       rw [if_pos rfl] at H
       replace H := Option.bind_eq_some_iff.mp H
       obtain ⟨⟨t283, t284⟩, A80, H⟩ := H
       try dsimp only at H
       have A8 := aS_ A80
       clear A80
       have H' := aS_ H
       clear H
       have p280 : 0 ≤ (x5_1 : Int) := of_decide_eq_true (by first | (with_reducible assumption) | assumption)
       have q280 : x5_1 < (l1.length : Int) := of_decide_eq_true (by first | (with_reducible assumption) | assumption)
       obtain ⟨ad280, A280_0, c280_0, e280, hx280_0, hl280_0, hi280_0⟩ := at_T38 HR1.out x5_1 p280 q280
       cases e280
       replace hx280_0 := (HB.out.cell (World.block_lt_of_cell? w _ hx280_0)).trans hx280_0
       have HR280_0 := aS_ hi280_0
       have HC280_0 := aS_ hl280_0
       clear hi280_0 hl280_0
       replace p280 := eq_true p280
       replace q280 := eq_true q280
       go_wp2_with (first | (refine cl_ (some 18) Try.func52 #[.string x0_1, .agg #[.slice A280_0 ((rd_T38 l1 x5_1).f0).length c280_0]] ?_; (with_reducible refine (sr23Right.calls k1 x0_1 _ _ ((rd_T38 l1 x5_1).f0) true _ ?side1 ?side2 A6.out).mono ?_); (case side1 => repeat (first | exact (Kd.C_below HR280_0.out HB.out) | (with_reducible refine Kd.C_alloc ?_ _) | (with_reducible refine Kd.C_drewN ?_ _) | (with_reducible refine Kd.C_drew ?_))); (case side2 => exact HC280_0.out); rintro e w9 ⟨rfl, hb⟩; refine ⟨_, rfl, ?_⟩; replace HB := bw_ HB hb; try clear hb; have p282 : 0 ≤ (x5_1 : Int) := of_decide_eq_true (by first | (with_reducible assumption) | assumption); have q282 : x5_1 < (l1.length : Int) := of_decide_eq_true (by first | (with_reducible assumption) | assumption); obtain ⟨ad282, A282_0, c282_0, e282, hx282_0, hl282_0, hi282_0⟩ := at_T38 HR1.out x5_1 p282 q282; obtain rfl : ad280 = ad282 := (by injection e282); replace hx282_0 := (HB.out.cell (World.block_lt_of_cell? w _ hx282_0)).trans hx282_0; have HR282_0 := aS_ hi282_0; have HC282_0 := aS_ hl282_0; clear hi282_0 hl282_0; replace p282 := eq_true p282; replace q282 := eq_true q282) | (refine cl_ (some 26) Try.func53 #[.string x0_1, .agg #[.slice A282_0 ((rd_T38 l1 x5_1).f0).length c282_0]] ?_; (with_reducible refine (sr23Run.calls k1 x0_1 _ _ ((rd_T38 l1 x5_1).f0) t283 t284 _ ?side1 ?side2 A8.out).mono ?_); (case side1 => repeat (first | exact (Kd.C_below HR282_0.out HB.out) | (with_reducible refine Kd.C_alloc ?_ _) | (with_reducible refine Kd.C_drewN ?_ _) | (with_reducible refine Kd.C_drew ?_))); (case side2 => exact HC282_0.out); rintro e w10 ⟨rfl, hb⟩; refine ⟨_, rfl, ?_⟩; replace HB := bw_ HB hb; try clear hb))
       go_roundg k1
       case measure => have := HK1.out; omega
       case rel => exact ⟨(t283), (wrap64 (x5_1 - 1)), t0, t0, H', ⟨t2 HK1⟩, ⟨wk HB.out⟩⟩
      ·replace c7 := Bool.eq_false_iff.mpr c7
       subst c7
       rw [if_neg Bool.false_ne_true] at H
       obtain rfl := Option.some.inj H
       have p280 : 0 ≤ (x5_1 : Int) := of_decide_eq_true (by first | (with_reducible assumption) | assumption)
       have q280 : x5_1 < (l1.length : Int) := of_decide_eq_true (by first | (with_reducible assumption) | assumption)
       obtain ⟨ad280, A280_0, c280_0, e280, hx280_0, hl280_0, hi280_0⟩ := at_T38 HR1.out x5_1 p280 q280
       cases e280
       replace hx280_0 := (HB.out.cell (World.block_lt_of_cell? w _ hx280_0)).trans hx280_0
       have HR280_0 := aS_ hi280_0
       have HC280_0 := aS_ hl280_0
       clear hi280_0 hl280_0
       replace p280 := eq_true p280
       replace q280 := eq_true q280
       go_wp2_with (first | (refine cl_ (some 18) Try.func52 #[.string x0_1, .agg #[.slice A280_0 ((rd_T38 l1 x5_1).f0).length c280_0]] ?_; (with_reducible refine (sr23Right.calls k1 x0_1 _ _ ((rd_T38 l1 x5_1).f0) false _ ?side1 ?side2 A6.out).mono ?_); (case side1 => repeat (first | exact (Kd.C_below HR280_0.out HB.out) | (with_reducible refine Kd.C_alloc ?_ _) | (with_reducible refine Kd.C_drewN ?_ _) | (with_reducible refine Kd.C_drew ?_))); (case side2 => exact HC280_0.out); rintro e w11 ⟨rfl, hb⟩; refine ⟨_, rfl, ?_⟩; replace HB := bw_ HB hb; try clear hb))
       go_ret
       exact ⟨t1, wk HB.out⟩
     ·rw [if_neg c5] at H
      exact absurd H (by simp)
    ·rw [if_neg c4] at H
     exact absurd H (by simp)
   ·rw [if_neg c3] at H
    have c3b0 := decide_eq_false c3
    clear c3
    obtain rfl := Option.some.inj H
    go_wp2
    go_ret
    exact ⟨t1, wk HB.out⟩
end Go.Proofs.Ytnndanfghlnpfaa.P
