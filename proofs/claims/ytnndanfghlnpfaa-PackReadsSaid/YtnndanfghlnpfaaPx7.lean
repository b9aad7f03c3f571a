import Derived.Test.YtnndanfghlnpfaaPx0
import Derived.Lib.Bytealg
import Derived.Test.YtnndanfghlnpfaaPx4
import Derived.Test.YtnndanfghlnpfaaPx5
import Derived.Test.YtnndanfghlnpfaaPx6
namespace Go.Proofs.Ytnndanfghlnpfaa.P
open Go.RowKit Go.Proofs.YtnndanfghlnpfaaW.PrintWords Go.Proofs.YtnndanfghlnpfaaW.PrintLast Go.Proofs.YtnndanfghlnpfaaW.PrintMore
attribute [local go_sem] max2_int min2_int max_two min_two max_three min_three max_four min_four   -- for this text's walks alone
set_option linter.unusedVariables false
set_option linter.unusedSimpArgs false
/-! ### stack_Undoes: function 37 -/
def stack_goes.l (way : Nat → List S88 → Option (List S88)) : Nat → ByteArray → List S38 → Option Bool
 | 0, _, _ => none
 | k + 1, t, l => if l.length = 0 then (some true) else ((way k (rd_T38 l ((l.length - 1 : Nat) : Int)).f0).bind fun y => (step_Right.f k t y).bind fun b => if b = true then ((step_Run.f k t y).bind fun o => stack_goes.l way k o.1 (l.take (l.length - 1))) else (some false))
def stack_goes.f (way : Nat → List S88 → Option (List S88)) (k : Nat) (t : ByteArray) (l : List S38) : Option Bool := if l.length > 16 then (some false) else (stack_goes.l way k t l)
theorem stack_goes.mono_l (way : Nat → List S88 → Option (List S88)) (ha : ∀ k x, LeO (way k x) (way (k + 1) x)) : ∀ k t l, LeO (stack_goes.l way k t l) (stack_goes.l way (k + 1) t l)
 | 0, _, _ => fun r h => by simp [stack_goes.l] at h
 | k + 1, t, l => by
  rw [stack_goes.l, stack_goes.l]
  exact LeO.ite (LeO.refl _) (LeO.bind (ha _ _) fun _ => LeO.bind (step_Right.mono _ _ _) fun _ => LeO.ite (LeO.bind (step_Run.mono _ _ _) fun _ => stack_goes.mono_l way ha k _ _) (LeO.refl _))
def stack_Undoes.way : Nat → List S88 → Option (List S88) := fun k x => step_Inverse.f k x
theorem stack_Undoes.way_calls (k : Nat) (At : Option Addr) (ct : Nat) (x y : List S88) (W : World) (hC : Kd.C k88 W At x.length x) (hc : x.length ≤ ct) (h : stack_Undoes.way k x = some y) :
  Calls Try.prog 66 #[.agg #[.slice At x.length ct]] W fun e W' => ∃ Ay cy, e = .returned (.agg #[.slice Ay y.length cy]) ∧ y.length ≤ cy ∧ Kd.C k88 W' Ay y.length y ∧ Below W.heap.size W W' := by
 refine (step_Inverse.calls k At ct x y W hC hc h).mono ?_
 rintro e W' ⟨v, rfl, hR, hb⟩
 obtain ⟨Ay, cy, rfl, hl, hCy⟩ := Kd.R_reads hR
 exact ⟨Ay, cy, rfl, hl, hCy, hb⟩
theorem stack_Undoes.way_mono : ∀ k x, LeO (stack_Undoes.way k x) (stack_Undoes.way (k + 1) x) := fun k x => step_Inverse.mono _ k
set_option maxHeartbeats 8000000 in
set_option maxRecDepth 100000 in
theorem stack_Undoes.goes (k : Nat) (text : ByteArray) (A : Option Addr) (c : Nat) (l : List S38) (r : Bool) (w : World) (hC : Kd.C k38 w A l.length l) (hc : l.length ≤ c) (h : stack_goes.f stack_Undoes.way k text l = some r) :
  Calls Try.prog 65 #[.string text, .slice A l.length c, .func (.func 66) #[] #[]] w fun e w' => e = .returned (.bool r) ∧ Below w.heap.size w w' := by
 have huS := Try.underlying38
 have huP := Try.underlying122
 unfold stack_goes.f at h
 have HC := aS_ hC
 have Hc := aS_ hc
 by_cases c0 : l.length > 16
 ·rw [if_pos c0] at h
  obtain rfl := Option.some.inj h
  have c0b : decide (16 < (l.length : Int)) = true := decide_eq_true (by omega)
  have c0c : decide (16 < l.length) = true := decide_eq_true c0
  clear hC hc h c0
  go_enter Try.func65, Try.ntmps65
  go_wp2_with fail
  go_ret
  exact ⟨rfl, Below.refl _ _⟩
 rw [if_neg c0] at h
 have H0 := aS_ h
 have HL := aS_ (show l.length ≤ 16 by omega)
 have c0b : decide (16 < (l.length : Int)) = false := decide_eq_false (by omega)
 have c0c : decide (16 < l.length) = false := decide_eq_false c0
 clear hC hc h c0
 go_enter Try.func65, Try.ntmps65
 go_upto_region 4 with (go_at_call 86; (with_reducible refine (stack_steps_own _ _ _ _).mono ?_); rintro e w2 ⟨rfl, rfl⟩)
 go_loopg [0] k (fun kq v0 wr => ∃ (t : ByteArray) (lq : List S38), v0 = .string t ∧ Aside0 (stack_goes.l stack_Undoes.way kq t lq = some r ∧ lq.length ≤ 16 ∧ lq.length ≤ c ∧ Kd.C k38 w A lq.length lq ∧ wr.heap[w.heap.size]? = some (.cells #[.slice A lq.length c, .int .i64 16] 122 (0, 0)) ∧ Below w.heap.size w wr))
 case atStart => exact ⟨text, l, rfl, ⟨H0.out, HL.out, Hc.out, HC.out, heap_alloc_new _ _, wA (Below.refl _ _) _⟩⟩
 case round =>
  obtain ⟨t, lq, rfl, HJ⟩ := hrel
  have G1 := aS_ HJ.out.1
  have HL := aS_ HJ.out.2.1
  have Hc := aS_ HJ.out.2.2.1
  have HC := aS_ HJ.out.2.2.2.1
  have KG := aS_ HJ.out.2.2.2.2.1
  have KB := aS_ HJ.out.2.2.2.2.2
  clear HJ
  cases gk with
  | zero => exact absurd G1.out (by simp [stack_goes.l])
  | succ k1 =>
   have H := G1.out
   clear G1
   rw [stack_goes.l] at H
   by_cases z : lq.length = 0
   ·rw [if_pos z] at H
    obtain rfl := Option.some.inj H
    have KG0 := aS_ (show wr.heap[w.heap.size]? = some (.cells #[.slice A 0 c, .int .i64 16] 122 (0, 0)) by have h_ := KG.out; rw [z] at h_; exact h_)
    clear H
    go_wp2_with (go_at_call 87; (refine (stack_pile_api_Step_pop.none_ w.heap.size A c _ KG0.out).mono ?_); rintro e w3 ⟨rfl, hg', hb⟩; have KB3 := aS_ (below_step KB.out hb); clear hb hg')
    go_ret
    exact ⟨rfl, wA KB3.out _⟩
   rw [if_neg z] at H
   replace H := Option.bind_eq_some_iff.mp H
   obtain ⟨y, A1, H⟩ := H
   replace H := Option.bind_eq_some_iff.mp H
   obtain ⟨b, A2, H⟩ := H
   obtain ⟨m, hm⟩ : ∃ m, lq.length = m + 1 := ⟨lq.length - 1, by omega⟩
   rw [hm, Nat.add_sub_cancel] at A1
   have HA1 := aS_ A1
   have HA2 := aS_ A2
   have HC1 := aS_ (show Kd.C k38 w A (m + 1) lq by rw [← hm]; exact HC.out)
   have KG1 := aS_ (show wr.heap[w.heap.size]? = some (.cells #[.slice A (m + 1) c, .int .i64 16] 122 (0, 0)) by rw [← hm]; exact KG.out)
   have Hc1 := aS_ (show m + 1 ≤ c by rw [← hm]; exact Hc.out)
   have HM := aS_ (show m ≤ 1000 by have := HL.out; omega)
   clear A1 A2 KG
   go_upto_region 5 with (go_at_call 87; (refine (stack_pile_api_Step_pop.some_ w.heap.size A c m lq w _ KB.out KG1.out HC1.out Hc1.out HM.out).mono ?_); rintro e w3 ⟨⟨At, ct, rfl, hct, hCt⟩, hg', hb⟩; have KB3 := aS_ (Below.trans KB.out hb); have KG3 := aS_ (bA hg' (.cells #[.slice At (rd_T38 lq (m : Int)).f0.length ct] 38)); have Hct := aS_ hct; have HCt := aS_ hCt; clear hb hg' hct hCt)
   have h8 := (blk_cell (heap_alloc_new w3 (.cells #[.slice At (rd_T38 lq (m : Int)).f0.length ct] 38)) 0).trans rfl
   go_upto_region 8 with (go_at_call 66; (refine (stack_Undoes.way_calls k1 At ct _ y _ (Kd.C_below HCt.out (wA KB3.out _)) Hct.out HA1.out).mono ?_); rintro e w4 ⟨Ay, cy, rfl, hcy, hCy, hb⟩; have KB4 := aS_ (wA (below_step (wA KB3.out _) hb) (.cells #[.slice Ay y.length cy] 38)); have KG4 := aS_ (bA (blk_below KG3.out hb) (.cells #[.slice Ay y.length cy] 38)); have Hcy := aS_ hcy; have HCy := aS_ (Kd.C_alloc hCy (.cells #[.slice Ay y.length cy] 38)); clear hb hcy hCy)
   have k10 := heap_alloc_new w4 (.cells #[.slice Ay y.length cy] 38)
   have h10 := (blk_cell k10 0).trans rfl
   have K10 := aS_ k10
   clear h8 k10 KG1 KG3 KB3
   cases b with
   | false =>
    rw [if_neg Bool.false_ne_true] at H
    obtain rfl := Option.some.inj H
    clear H
    go_wp2_with (go_at_call 72; (refine (step_Right.calls k1 t Ay cy y false _ HCy.out Hcy.out HA2.out).mono ?_); rintro e w5 ⟨rfl, hb⟩)
    go_ret
    exact ⟨rfl, below_step KB4.out hb⟩
   | true =>
    rw [if_pos rfl] at H
    replace H := Option.bind_eq_some_iff.mp H
    obtain ⟨⟨t', e'⟩, A3, H⟩ := H
    have HA3 := aS_ A3
    have HG := aS_ H
    clear A3 H
    go_wp2_with (first
     | (go_at_call 72; (refine (step_Right.calls k1 t Ay cy y true _ HCy.out Hcy.out HA2.out).mono ?_); rintro e w5 ⟨rfl, hb5⟩; have KB5 := aS_ (below_step KB4.out hb5); have KG5 := aS_ (blk_below KG4.out hb5); have k105 := blk_below K10.out hb5; have h105 := (blk_cell k105 0).trans rfl; have HCy5 := aS_ (Kd.C_below HCy.out hb5); clear hb5 k105)
     | (go_at_call 73; (refine (step_Run.calls k1 t Ay cy y t' e' _ HCy5.out Hcy.out HA3.out).mono ?_); rintro e w6 ⟨rfl, hb6⟩; have KB6 := aS_ (below_step KB5.out hb6); have KG6 := aS_ (blk_below KG5.out hb6); clear hb6))
    go_roundg k1
    case measure => omega
    case rel =>
     have htk : (lq.take (lq.length - 1)).length = m := by rw [List.length_take]; omega
     have hCq := Kd.C_take HC.out (show lq.length - 1 ≤ lq.length by omega)
     refine ⟨t', lq.take (lq.length - 1), rfl, ⟨HG.out, ?_, ?_, hCq, ?_, KB6.out⟩⟩
     ·have := HL.out; omega
     ·have := Hc1.out; omega
     ·rw [htk]; exact KG6.out
def stack_Undoes.f (k : Nat) (a0 : ByteArray) (l1 : List S38) : Option Bool := stack_goes.f stack_Undoes.way k a0 l1
theorem stack_Undoes.mono : ∀ a0 l1 k, LeO (stack_Undoes.f k a0 l1) (stack_Undoes.f (k + 1) a0 l1) := fun _ _ k => LeO.ite (LeO.refl _) (stack_goes.mono_l _ stack_Undoes.way_mono k _ _)
theorem stack_Undoes.calls (k : Nat) (a0 : ByteArray) (A1 : Option Addr) (c1 : Nat) (l1 : List S38) (r : Bool) (w : World) (hr1 : Kd.C k38 w A1 l1.length l1) (hc1 : l1.length ≤ c1) (h : stack_Undoes.f k a0 l1 = some r) :
  Calls Try.prog 37 #[.string a0, .slice A1 l1.length c1] w fun e w' => e = .returned (.bool r) ∧ Below w.heap.size w w' := by
 have HR := aS_ hr1
 have HC := aS_ hc1
 have HH := aS_ h
 clear hr1 hc1 h
 go_enter Try.func37, Try.ntmps37
 go_wp2_with (go_at_call 65; (refine (stack_Undoes.goes k a0 A1 c1 l1 r _ HR.out HC.out HH.out).mono ?_); rintro e w2 ⟨rfl, hb⟩)
 go_ret
 exact ⟨rfl, hb⟩
/-! ### stack_Redoes: function 38 -/
theorem results_c1 {P : Program} {fn : Func} {p : Tmp} {ty : TypeId} (h : fn.results = #[.cell p ty]) (tmps : Array Value) (w : World) (g : Nat) (t : TypeId) (cs : Array Value) (fr : Nat × Nat) (d : TypeDesc)
  (hp : tmps.getD p undef = .pointer (some ⟨g, 0, none⟩)) (hg : w.heap[g]? = some (.cells cs t fr))
  (hu : P.underlying ty = some d) (hd : (match d with | .struct _ | .array _ _ => true | _ => false) = true) (hi : (P.info? ty).map (·.size) = some cs.size) :
  (results fn tmps).run P w = .ok (.agg cs) w := by
 have hp' : tmps[p]?.getD undef = .pointer (some ⟨g, 0, none⟩) := by simpa using hp
 simp [results, h, hp', asAddr, run_loadVar_row w g t ty cs fr d hg hu hd hi]
def stack_Redoes.way : Nat → List S88 → Option (List S88) := fun _ x => some x
theorem stack_Redoes.way_calls (k : Nat) (At : Option Addr) (ct : Nat) (x y : List S88) (W : World) (hC : Kd.C k88 W At x.length x) (hc : x.length ≤ ct) (h : stack_Redoes.way k x = some y) :
  Calls Try.prog 67 #[.agg #[.slice At x.length ct]] W fun e W' => ∃ Ay cy, e = .returned (.agg #[.slice Ay y.length cy]) ∧ y.length ≤ cy ∧ Kd.C k88 W' Ay y.length y ∧ Below W.heap.size W W' := by
 have huS := Try.underlying38
 obtain rfl : x = y := Option.some.inj h
 have HC := aS_ hC
 have Hc := aS_ hc
 clear hC hc h
 go_enter Try.func67, Try.ntmps67
 go_wp2_with fail
 refine bodyPost_ret (results_c1 rfl _ _ (W.heap.size + 1) 38 #[.slice At x.length ct] (0, 0) _ rfl (by simpa using heap_alloc_new (W.alloc (.cells #[.slice At x.length ct] 38)) (.cells #[.slice At x.length ct] 38)) Try.underlying38 rfl (by kernel_rfl)) rfl ?_
 exact ⟨_, _, rfl, Hc.out, Kd.C_below HC.out (wA (wA (Below.refl _ _) _) _), wA (wA (Below.refl _ _) _) _⟩
theorem stack_Redoes.way_mono : ∀ k x, LeO (stack_Redoes.way k x) (stack_Redoes.way (k + 1) x) := fun _ _ => LeO.refl _
set_option maxHeartbeats 8000000 in
set_option maxRecDepth 100000 in
theorem stack_Redoes.goes (k : Nat) (text : ByteArray) (A : Option Addr) (c : Nat) (l : List S38) (r : Bool) (w : World) (hC : Kd.C k38 w A l.length l) (hc : l.length ≤ c) (h : stack_goes.f stack_Redoes.way k text l = some r) :
  Calls Try.prog 65 #[.string text, .slice A l.length c, .func (.func 67) #[] #[]] w fun e w' => e = .returned (.bool r) ∧ Below w.heap.size w w' := by
 have huS := Try.underlying38
 have huP := Try.underlying122
 unfold stack_goes.f at h
 have HC := aS_ hC
 have Hc := aS_ hc
 by_cases c0 : l.length > 16
 ·rw [if_pos c0] at h
  obtain rfl := Option.some.inj h
  have c0b : decide (16 < (l.length : Int)) = true := decide_eq_true (by omega)
  have c0c : decide (16 < l.length) = true := decide_eq_true c0
  clear hC hc h c0
  go_enter Try.func65, Try.ntmps65
  go_wp2_with fail
  go_ret
  exact ⟨rfl, Below.refl _ _⟩
 rw [if_neg c0] at h
 have H0 := aS_ h
 have HL := aS_ (show l.length ≤ 16 by omega)
 have c0b : decide (16 < (l.length : Int)) = false := decide_eq_false (by omega)
 have c0c : decide (16 < l.length) = false := decide_eq_false c0
 clear hC hc h c0
 go_enter Try.func65, Try.ntmps65
 go_upto_region 4 with (go_at_call 86; (with_reducible refine (stack_steps_own _ _ _ _).mono ?_); rintro e w2 ⟨rfl, rfl⟩)
 go_loopg [0] k (fun kq v0 wr => ∃ (t : ByteArray) (lq : List S38), v0 = .string t ∧ Aside0 (stack_goes.l stack_Redoes.way kq t lq = some r ∧ lq.length ≤ 16 ∧ lq.length ≤ c ∧ Kd.C k38 w A lq.length lq ∧ wr.heap[w.heap.size]? = some (.cells #[.slice A lq.length c, .int .i64 16] 122 (0, 0)) ∧ Below w.heap.size w wr))
 case atStart => exact ⟨text, l, rfl, ⟨H0.out, HL.out, Hc.out, HC.out, heap_alloc_new _ _, wA (Below.refl _ _) _⟩⟩
 case round =>
  obtain ⟨t, lq, rfl, HJ⟩ := hrel
  have G1 := aS_ HJ.out.1
  have HL := aS_ HJ.out.2.1
  have Hc := aS_ HJ.out.2.2.1
  have HC := aS_ HJ.out.2.2.2.1
  have KG := aS_ HJ.out.2.2.2.2.1
  have KB := aS_ HJ.out.2.2.2.2.2
  clear HJ
  cases gk with
  | zero => exact absurd G1.out (by simp [stack_goes.l])
  | succ k1 =>
   have H := G1.out
   clear G1
   rw [stack_goes.l] at H
   by_cases z : lq.length = 0
   ·rw [if_pos z] at H
    obtain rfl := Option.some.inj H
    have KG0 := aS_ (show wr.heap[w.heap.size]? = some (.cells #[.slice A 0 c, .int .i64 16] 122 (0, 0)) by have h_ := KG.out; rw [z] at h_; exact h_)
    clear H
    go_wp2_with (go_at_call 87; (refine (stack_pile_api_Step_pop.none_ w.heap.size A c _ KG0.out).mono ?_); rintro e w3 ⟨rfl, hg', hb⟩; have KB3 := aS_ (below_step KB.out hb); clear hb hg')
    go_ret
    exact ⟨rfl, wA KB3.out _⟩
   rw [if_neg z] at H
   replace H := Option.bind_eq_some_iff.mp H
   obtain ⟨y, A1, H⟩ := H
   replace H := Option.bind_eq_some_iff.mp H
   obtain ⟨b, A2, H⟩ := H
   obtain ⟨m, hm⟩ : ∃ m, lq.length = m + 1 := ⟨lq.length - 1, by omega⟩
   rw [hm, Nat.add_sub_cancel] at A1
   have HA1 := aS_ A1
   have HA2 := aS_ A2
   have HC1 := aS_ (show Kd.C k38 w A (m + 1) lq by rw [← hm]; exact HC.out)
   have KG1 := aS_ (show wr.heap[w.heap.size]? = some (.cells #[.slice A (m + 1) c, .int .i64 16] 122 (0, 0)) by rw [← hm]; exact KG.out)
   have Hc1 := aS_ (show m + 1 ≤ c by rw [← hm]; exact Hc.out)
   have HM := aS_ (show m ≤ 1000 by have := HL.out; omega)
   clear A1 A2 KG
   go_upto_region 5 with (go_at_call 87; (refine (stack_pile_api_Step_pop.some_ w.heap.size A c m lq w _ KB.out KG1.out HC1.out Hc1.out HM.out).mono ?_); rintro e w3 ⟨⟨At, ct, rfl, hct, hCt⟩, hg', hb⟩; have KB3 := aS_ (Below.trans KB.out hb); have KG3 := aS_ (bA hg' (.cells #[.slice At (rd_T38 lq (m : Int)).f0.length ct] 38)); have Hct := aS_ hct; have HCt := aS_ hCt; clear hb hg' hct hCt)
   have h8 := (blk_cell (heap_alloc_new w3 (.cells #[.slice At (rd_T38 lq (m : Int)).f0.length ct] 38)) 0).trans rfl
   go_upto_region 8 with (go_at_call 67; (refine (stack_Redoes.way_calls k1 At ct _ y _ (Kd.C_below HCt.out (wA KB3.out _)) Hct.out HA1.out).mono ?_); rintro e w4 ⟨Ay, cy, rfl, hcy, hCy, hb⟩; have KB4 := aS_ (wA (below_step (wA KB3.out _) hb) (.cells #[.slice Ay y.length cy] 38)); have KG4 := aS_ (bA (blk_below KG3.out hb) (.cells #[.slice Ay y.length cy] 38)); have Hcy := aS_ hcy; have HCy := aS_ (Kd.C_alloc hCy (.cells #[.slice Ay y.length cy] 38)); clear hb hcy hCy)
   have k10 := heap_alloc_new w4 (.cells #[.slice Ay y.length cy] 38)
   have h10 := (blk_cell k10 0).trans rfl
   have K10 := aS_ k10
   clear h8 k10 KG1 KG3 KB3
   cases b with
   | false =>
    rw [if_neg Bool.false_ne_true] at H
    obtain rfl := Option.some.inj H
    clear H
    go_wp2_with (go_at_call 72; (refine (step_Right.calls k1 t Ay cy y false _ HCy.out Hcy.out HA2.out).mono ?_); rintro e w5 ⟨rfl, hb⟩)
    go_ret
    exact ⟨rfl, below_step KB4.out hb⟩
   | true =>
    rw [if_pos rfl] at H
    replace H := Option.bind_eq_some_iff.mp H
    obtain ⟨⟨t', e'⟩, A3, H⟩ := H
    have HA3 := aS_ A3
    have HG := aS_ H
    clear A3 H
    go_wp2_with (first
     | (go_at_call 72; (refine (step_Right.calls k1 t Ay cy y true _ HCy.out Hcy.out HA2.out).mono ?_); rintro e w5 ⟨rfl, hb5⟩; have KB5 := aS_ (below_step KB4.out hb5); have KG5 := aS_ (blk_below KG4.out hb5); have k105 := blk_below K10.out hb5; have h105 := (blk_cell k105 0).trans rfl; have HCy5 := aS_ (Kd.C_below HCy.out hb5); clear hb5 k105)
     | (go_at_call 73; (refine (step_Run.calls k1 t Ay cy y t' e' _ HCy5.out Hcy.out HA3.out).mono ?_); rintro e w6 ⟨rfl, hb6⟩; have KB6 := aS_ (below_step KB5.out hb6); have KG6 := aS_ (blk_below KG5.out hb6); clear hb6))
    go_roundg k1
    case measure => omega
    case rel =>
     have htk : (lq.take (lq.length - 1)).length = m := by rw [List.length_take]; omega
     have hCq := Kd.C_take HC.out (show lq.length - 1 ≤ lq.length by omega)
     refine ⟨t', lq.take (lq.length - 1), rfl, ⟨HG.out, ?_, ?_, hCq, ?_, KB6.out⟩⟩
     ·have := HL.out; omega
     ·have := Hc1.out; omega
     ·rw [htk]; exact KG6.out
def stack_Redoes.f (k : Nat) (a0 : ByteArray) (l1 : List S38) : Option Bool := stack_goes.f stack_Redoes.way k a0 l1
theorem stack_Redoes.mono : ∀ a0 l1 k, LeO (stack_Redoes.f k a0 l1) (stack_Redoes.f (k + 1) a0 l1) := fun _ _ k => LeO.ite (LeO.refl _) (stack_goes.mono_l _ stack_Redoes.way_mono k _ _)
theorem stack_Redoes.calls (k : Nat) (a0 : ByteArray) (A1 : Option Addr) (c1 : Nat) (l1 : List S38) (r : Bool) (w : World) (hr1 : Kd.C k38 w A1 l1.length l1) (hc1 : l1.length ≤ c1) (h : stack_Redoes.f k a0 l1 = some r) :
  Calls Try.prog 38 #[.string a0, .slice A1 l1.length c1] w fun e w' => e = .returned (.bool r) ∧ Below w.heap.size w w' := by
 have HR := aS_ hr1
 have HC := aS_ hc1
 have HH := aS_ h
 clear hr1 hc1 h
 go_enter Try.func38, Try.ntmps38
 go_wp2_with (go_at_call 65; (refine (stack_Redoes.goes k a0 A1 c1 l1 r _ HR.out HC.out HH.out).mono ?_); rintro e w2 ⟨rfl, hb⟩)
 go_ret
 exact ⟨rfl, hb⟩
/-! ### opcode_MayMark: function 69 -/
mutual
def opcode_MayMark.j0 : Nat → ByteArray → Bool → Option (Bool)
 | 0, _, _ => none
 | k + 1, x0, x10 => if x10 = true then (some false) else (opcode_MayMark.l0 k x0 (x0.size : Int) 0)
def opcode_MayMark.l0 : Nat → ByteArray → Int → Int → Option (Bool)
 | 0, _, _, _ => none
 | k + 1, x0, x12, x13 => if x13 < x12 then (if 0 ≤ x13 then (if x13 < (x0.size : Int) then (if (bt x0 x13) < 97 then (some false) else (if (bt x0 x13) > 122 then (some false) else (opcode_MayMark.l0 k x0 x12 (wrap64 (x13 + 1))))) else (none)) else (none)) else (some true)
end
def opcode_MayMark.f (k : Nat) (a0 : ByteArray) : Option (Bool) := if a0.toList = ([] : List UInt8) then (opcode_MayMark.j0 k a0 true) else (opcode_MayMark.j0 k a0 (decide ((a0.size : Int) > 8)))
theorem opcode_MayMark.mono_l : ∀ k, (∀ y0 y1, LeO (opcode_MayMark.j0 k y0 y1) (opcode_MayMark.j0 (k + 1) y0 y1)) ∧ (∀ y0 y1 y2, LeO (opcode_MayMark.l0 k y0 y1 y2) (opcode_MayMark.l0 (k + 1) y0 y1 y2))
 | 0 => ⟨fun _ _ r h => by simp [opcode_MayMark.j0] at h, fun _ _ _ r h => by simp [opcode_MayMark.l0] at h⟩
 | k + 1 => by
  obtain ⟨ih0, ih1⟩ := opcode_MayMark.mono_l k
  refine ⟨?_, ?_⟩
  ·intro y0 y1
   unfold opcode_MayMark.j0
   repeat' first
   | (with_reducible exact ih0 _ _)
   | (with_reducible exact ih1 _ _ _)
   | (with_reducible exact LeO.refl _)
   | (with_reducible exact LeO.none _)
   | (with_reducible refine LeO.ite ?_ ?_)
   | (with_reducible refine LeO.bind ?_ (fun _ => ?_))
   | exact ih0 _ _
   | exact ih1 _ _ _
   | exact LeO.none _
   | refine LeO.ite ?_ ?_
   | refine LeO.bind ?_ (fun _ => ?_)
  ·intro y0 y1 y2
   unfold opcode_MayMark.l0
   repeat' first
   | (with_reducible exact ih0 _ _)
   | (with_reducible exact ih1 _ _ _)
   | (with_reducible exact LeO.refl _)
   | (with_reducible exact LeO.none _)
   | (with_reducible refine LeO.ite ?_ ?_)
   | (with_reducible refine LeO.bind ?_ (fun _ => ?_))
   | exact ih0 _ _
   | exact ih1 _ _ _
   | exact LeO.none _
   | refine LeO.ite ?_ ?_
   | refine LeO.bind ?_ (fun _ => ?_)
theorem opcode_MayMark.mono : ∀ a0 k, LeO (opcode_MayMark.f k a0) (opcode_MayMark.f (k + 1) a0) := by
 intro a0 k
 obtain ⟨ih0, ih1⟩ := opcode_MayMark.mono_l k
 unfold opcode_MayMark.f
 repeat' first
   | (with_reducible exact ih0 _ _)
   | (with_reducible exact ih1 _ _ _)
   | (with_reducible exact LeO.refl _)
   | (with_reducible exact LeO.none _)
   | (with_reducible refine LeO.ite ?_ ?_)
   | (with_reducible refine LeO.bind ?_ (fun _ => ?_))
   | exact ih0 _ _
   | exact ih1 _ _ _
   | exact LeO.none _
   | refine LeO.ite ?_ ?_
   | refine LeO.bind ?_ (fun _ => ?_)
set_option maxHeartbeats 8000000 in
set_option maxRecDepth 100000 in
theorem opcode_MayMark.calls (k : Nat) (a0 : ByteArray) (r : Bool) (w : World) (h : opcode_MayMark.f k a0 = some r) :
  Calls Try.prog 69 #[.string a0] w fun e w' => e = .returned (.bool r) ∧ Drawn0 w w' := by
 have H : (if a0.toList = ([] : List UInt8) then (opcode_MayMark.j0 k a0 true) else (opcode_MayMark.j0 k a0 (decide ((a0.size : Int) > 8)))) = some r := h
 clear h
 have HC2 := aS_ H
 clear H
 go_enter Try.func69, Try.ntmps69
 go_upto_region 1 with (fail)
 go_cut [10] (fun v10 wc => ∃ (kq : Nat) (x10_1 : Bool), v10 = .bool x10_1 ∧ Aside0 (opcode_MayMark.j0 kq a0 x10_1 = some r) ∧ Aside0 (kq ≤ k) ∧ Drawn0 w wc)
 case first =>
  have H := HC2.out
  clear HC2
  by_cases c3 : a0.toList = ([] : List UInt8)
  ·rw [if_pos c3] at H
   have c3b0 := beq_iff_eq.mpr c3
   have c3b1 := bne_eq_false_iff_eq.mpr c3
   clear c3
   (first | rw [c3b0] | (simp only [i64_w, i32_w]; rw [c3b0]) | skip)
   have H' := aS_ H
   clear H
   go_wp2
   go_meet
   case rel => exact ⟨_, (true), t0, H', ⟨t3⟩, by repeat (first | exact Drawn0.refl _ | apply Drawn0.step)⟩
  ·rw [if_neg c3] at H
   have c3b0 := beq_eq_false_iff_ne.mpr c3
   have c3b1 := bne_iff_ne.mpr c3
   (first | rw [c3b0] | (simp only [i64_w, i32_w]; rw [c3b0]) | skip)
   have H' := aS_ H
   clear H
   go_wp2
   go_meet
   case rel => exact ⟨_, (decide ((a0.size : Int) > 8)), t0, H', ⟨t3⟩, by repeat (first | exact Drawn0.refl _ | apply Drawn0.step)⟩
 case rest =>
  clear HC2
  try clear p2
  try clear c3
  try clear c3b0
  try clear c3b1
  obtain ⟨kq, x10_1, rfl, HA, HJ1, ⟨mc1, rfl⟩⟩ := hcut
  cases kq with
  | zero => exact absurd HA.out (by simp [opcode_MayMark.j0])
  | succ kj1 =>
   have H := HA.out
   clear HA
   simp only [opcode_MayMark.j0] at H
   by_cases c4 : x10_1 = true
   ·subst c4
    rw [if_pos rfl] at H
    obtain rfl := Option.some.inj H
    go_wp2
    go_ret
    exact ⟨by first | rfl | (simp; done) | (simp [*]; done), by repeat (first | exact Drawn0.refl _ | apply Drawn0.step)⟩
   ·replace c4 := Bool.eq_false_iff.mpr c4
    subst c4
    rw [if_neg Bool.false_ne_true] at H
    have H' := aS_ H
    clear H
    go_wp2
    go_loopg [13] kj1 (fun kq v13 w' => ∃ (x13_2 : Int), v13 = .int .i64 x13_2 ∧ Aside0 (opcode_MayMark.l0 kq a0 (a0.size : Int) x13_2 = some r) ∧ Aside0 (kq ≤ kj1) ∧ Drawn0 w w')
    case atStart => exact ⟨(0), t0, H', ⟨Nat.le_refl _⟩, by repeat (first | exact Drawn0.refl _ | apply Drawn0.step)⟩
    case round =>
     clear H'
     try clear c1
     try clear p2
     try clear c3
     try clear c3b0
     try clear c3b1
     try clear c4
     try clear p2
     obtain ⟨x13_2, rfl, HA, HK2, ⟨m2, rfl⟩⟩ := hrel
     cases gk with
     | zero => exact absurd HA.out (by simp [opcode_MayMark.l0])
     | succ k2 =>
      have H := HA.out
      clear HA
      simp only [opcode_MayMark.l0] at H
      by_cases c5 : x13_2 < (a0.size : Int)
      ·rw [if_pos c5] at H
       have c5b0 := decide_eq_true c5
       clear c5
       by_cases c6 : 0 ≤ x13_2
       ·rw [if_pos c6] at H
        have c6b0 := decide_eq_true c6
        clear c6
        by_cases c7 : x13_2 < (a0.size : Int)
        ·rw [if_pos c7] at H
         have c7b0 := decide_eq_true c7
         clear c7
         by_cases c9 : (bt a0 x13_2) < 97
         ·rw [if_pos c9] at H
          have c9b0 := decide_eq_true c9
          clear c9
          obtain rfl := Option.some.inj H
          have p8 : 0 ≤ (x13_2 : Int) := of_decide_eq_true (by first | (with_reducible assumption) | assumption)
          have q8 : x13_2 < (a0.size : Int) := of_decide_eq_true (by first | (with_reducible assumption) | assumption)
          have hx8 := bt_at a0 x13_2
          replace p8 := eq_true p8
          replace q8 := eq_true q8
          go_wp2
          go_ret
          exact ⟨by first | rfl | (simp; done) | (simp [*]; done), by repeat (first | exact Drawn0.refl _ | apply Drawn0.step)⟩
         ·rw [if_neg c9] at H
          have c9b0 := decide_eq_false c9
          clear c9
          by_cases c11 : (bt a0 x13_2) > 122
          ·rw [if_pos c11] at H
           have c11b0 := decide_eq_true c11
           clear c11
           obtain rfl := Option.some.inj H
           have p8 : 0 ≤ (x13_2 : Int) := of_decide_eq_true (by first | (with_reducible assumption) | assumption)
           have q8 : x13_2 < (a0.size : Int) := of_decide_eq_true (by first | (with_reducible assumption) | assumption)
           have hx8 := bt_at a0 x13_2
           replace p8 := eq_true p8
           replace q8 := eq_true q8
           have p10 : 0 ≤ (x13_2 : Int) := of_decide_eq_true (by first | (with_reducible assumption) | assumption)
           have q10 : x13_2 < (a0.size : Int) := of_decide_eq_true (by first | (with_reducible assumption) | assumption)
           have hx10 := bt_at a0 x13_2
           replace p10 := eq_true p10
           replace q10 := eq_true q10
           go_wp2
           go_ret
           exact ⟨by first | rfl | (simp; done) | (simp [*]; done), by repeat (first | exact Drawn0.refl _ | apply Drawn0.step)⟩
          ·rw [if_neg c11] at H
           have c11b0 := decide_eq_false c11
           clear c11
           have H' := aS_ H
           clear H
           have p8 : 0 ≤ (x13_2 : Int) := of_decide_eq_true (by first | (with_reducible assumption) | assumption)
           have q8 : x13_2 < (a0.size : Int) := of_decide_eq_true (by first | (with_reducible assumption) | assumption)
           have hx8 := bt_at a0 x13_2
           replace p8 := eq_true p8
           replace q8 := eq_true q8
           have p10 : 0 ≤ (x13_2 : Int) := of_decide_eq_true (by first | (with_reducible assumption) | assumption)
           have q10 : x13_2 < (a0.size : Int) := of_decide_eq_true (by first | (with_reducible assumption) | assumption)
           have hx10 := bt_at a0 x13_2
           replace p10 := eq_true p10
           replace q10 := eq_true q10
           go_wp2
           go_roundg k2
           case measure => have := HJ1.out; have := HK2.out; omega
           case rel => exact ⟨(wrap64 (x13_2 + 1)), t0, H', ⟨by have := HJ1.out; have := HK2.out; omega⟩, by repeat (first | exact Drawn0.refl _ | apply Drawn0.step)⟩
        ·rw [if_neg c7] at H
         exact absurd H (by simp)
       ·rw [if_neg c6] at H
        exact absurd H (by simp)
      ·rw [if_neg c5] at H
       have c5b0 := decide_eq_false c5
       clear c5
       obtain rfl := Option.some.inj H
       go_wp2
       go_ret
       exact ⟨by first | rfl | (simp; done) | (simp [*]; done), by repeat (first | exact Drawn0.refl _ | apply Drawn0.step)⟩
/-! ### strings_Compare: function 70 -/
def strings_Compare.f (a0 : ByteArray) (a1 : ByteArray) : Option Int := some (Lib.compareBytes a0.data.toList a1.data.toList)
set_option maxHeartbeats 1000000 in
set_option maxRecDepth 100000 in
theorem strings_Compare.low (a b : ByteArray) (w : World) :
  Calls Try.prog 90 #[.string a, .string b] w fun e w' => e = .returned (.int .i64 (Lib.compareBytes a.data.toList b.data.toList)) ∧ w' = w := by
 go_enter Try.func90, Try.ntmps90
 go_wp2
 rw [run_callFunc_extern Try.func101 (by kernel_rfl) (by kernel_rfl) (by kernel_rfl) (e := Extern.BytealgCompare.compare) (by kernel_rfl), Lib.run_compareString]
 simp only [Result.andThen]
 rw [Oper.upon_value]
 go_wp2
 go_ret
 exact ⟨rfl, rfl⟩
set_option maxHeartbeats 1000000 in
set_option maxRecDepth 100000 in
theorem strings_Compare.calls (a0 : ByteArray) (a1 : ByteArray) (r : Int) (w : World) (h : strings_Compare.f a0 a1 = some r) :
  Calls Try.prog 70 #[.string a0, .string a1] w fun e w' => e = .returned (.int .i64 r) ∧ Below w.heap.size w w' := by
 obtain rfl := Option.some.inj h
 go_enter Try.func70, Try.ntmps70
 go_wp2_with (go_at_call 90; refine (strings_Compare.low _ _ _).mono ?_; rintro e w' ⟨rfl, rfl⟩)
 go_ret
 exact ⟨rfl, Below.refl _ _⟩
/-! ### marks_Right: function 40 -/
def marks_Right.l0 : Nat → ByteArray → ByteArray → List (S49) → Int → Int → Option (Bool)
 | 0, _, _, _, _, _ => none
 | k + 1, x1, x5, x11, x12, x13 => if x13 < x12 then (if 0 ≤ x13 then (if x13 < (x11.length : Int) then ((opcode_MayMark.f k ((rd_T49 x11 x13).f0)).bind fun t145 => (if t145 = true then ((strings_Compare.f x5 ((rd_T49 x11 x13).f0)).bind fun t146 => (if t146 ≥ 0 then (some false) else ((utf_Edge.f k x1 ((rd_T49 x11 x13).f1)).bind fun t147 => (if t147 = true then (marks_Right.l0 k x1 ((rd_T49 x11 x13).f0) x11 x12 (wrap64 (x13 + 1))) else (some false))))) else (some false))) else (none)) else (none)) else (some true)
def marks_Right.f (k : Nat) (l0 : List (S49)) (a1 : ByteArray) : Option (Bool) := if (l0.length : Int) > 16 then (some false) else (marks_Right.l0 k a1 (⟨#[]⟩ : ByteArray) l0 (l0.length : Int) 0)
theorem marks_Right.mono_l : ∀ k, (∀ y0 y1 y2 y3 y4, LeO (marks_Right.l0 k y0 y1 y2 y3 y4) (marks_Right.l0 (k + 1) y0 y1 y2 y3 y4))
 | 0 => fun _ _ _ _ _ r h => by simp [marks_Right.l0] at h
 | k + 1 => by
  have ih0 := marks_Right.mono_l k
  ·intro y0 y1 y2 y3 y4
   unfold marks_Right.l0
   repeat' first
   | (with_reducible exact ih0 _ _ _ _ _)
   | (with_reducible exact opcode_MayMark.mono _ _)
   | (with_reducible exact utf_Edge.mono _ _ _)
   | (with_reducible exact LeO.refl _)
   | (with_reducible exact LeO.none _)
   | (with_reducible refine LeO.ite ?_ ?_)
   | (with_reducible refine LeO.bind ?_ (fun _ => ?_))
   | exact ih0 _ _ _ _ _
   | exact opcode_MayMark.mono _ _
   | exact utf_Edge.mono _ _ _
   | exact LeO.none _
   | refine LeO.ite ?_ ?_
   | refine LeO.bind ?_ (fun _ => ?_)
theorem marks_Right.mono : ∀ a0 a1 k, LeO (marks_Right.f k a0 a1) (marks_Right.f (k + 1) a0 a1) := by
 intro a0 a1 k
 have ih0 := marks_Right.mono_l k
 unfold marks_Right.f
 repeat' first
   | (with_reducible exact ih0 _ _ _ _ _)
   | (with_reducible exact opcode_MayMark.mono _ _)
   | (with_reducible exact utf_Edge.mono _ _ _)
   | (with_reducible exact LeO.refl _)
   | (with_reducible exact LeO.none _)
   | (with_reducible refine LeO.ite ?_ ?_)
   | (with_reducible refine LeO.bind ?_ (fun _ => ?_))
   | exact ih0 _ _ _ _ _
   | exact opcode_MayMark.mono _ _
   | exact utf_Edge.mono _ _ _
   | exact LeO.none _
   | refine LeO.ite ?_ ?_
   | refine LeO.bind ?_ (fun _ => ?_)
set_option maxHeartbeats 8000000 in
set_option maxRecDepth 100000 in
theorem marks_Right.calls (k : Nat) (A0 : Option Addr) (c0 : Nat) (l0 : List (S49)) (a1 : ByteArray) (r : Bool) (w : World) (hr0 : Kd.C k49 w A0 l0.length l0) (hc0 : l0.length ≤ c0) (h : marks_Right.f k l0 a1 = some r) :
  Calls Try.prog 40 #[.slice A0 l0.length c0, .string a1] w fun e w' => e = .returned (.bool r) ∧ Below w.heap.size w w' := by
 have hu49 := Try.underlying49
 have HR0 := aS_ hr0
 have HC0 := aS_ hc0
 clear hr0 hc0
 have HB := aS_ (Below.refl w.heap.size w)
 have H : (if (l0.length : Int) > 16 then (some false) else (marks_Right.l0 k a1 (⟨#[]⟩ : ByteArray) l0 (l0.length : Int) 0)) = some r := h
 clear h
 by_cases c3 : (l0.length : Int) > 16
 ·rw [if_pos c3] at H
  have c3b0 := decide_eq_true c3
  have c3b1 : decide (16 < l0.length) = true := decide_eq_true (by omega)
  clear c3
  obtain rfl := Option.some.inj H
  go_enter Try.func40, Try.ntmps40
  go_wp2
  go_ret
  exact ⟨t1, wk HB.out⟩
 ·rw [if_neg c3] at H
  have c3b0 := decide_eq_false c3
  have c3b1 : decide (16 < l0.length) = false := decide_eq_false (by omega)
  clear c3
  have H' := aS_ H
  clear H
  go_enter Try.func40, Try.ntmps40
  go_wp2
  go_loopg [5, 13] k (fun kq v5 v13 w' => ∃ (x5_1 : ByteArray) (x13_1 : Int), v5 = .string x5_1 ∧ v13 = .int .i64 x13_1 ∧ Aside0 (marks_Right.l0 kq a1 x5_1 l0 (l0.length : Int) x13_1 = some r) ∧ Aside0 (kq ≤ k) ∧ Aside0 (Below w.heap.size w w'))
  case atStart => exact ⟨((⟨#[]⟩ : ByteArray)), (0), t0, t0, H', ⟨Nat.le_refl _⟩, ⟨wk HB.out⟩⟩
  case round =>
   clear H'
   try clear p2
   try clear c3
   try clear c3b0
   try clear c3b1
   obtain ⟨x5_1, x13_1, rfl, rfl, HA, HK1, HB⟩ := hrel
   cases gk with
   | zero => exact absurd HA.out (by simp [marks_Right.l0])
   | succ k1 =>
    have H := HA.out
    clear HA
    simp only [marks_Right.l0] at H
    by_cases c4 : x13_1 < (l0.length : Int)
    ·rw [if_pos c4] at H
     have c4b0 := decide_eq_true c4
     clear c4
     by_cases c5 : 0 ≤ x13_1
     ·rw [if_pos c5] at H
      have c5b0 := decide_eq_true c5
      clear c5
      by_cases c6 : x13_1 < (l0.length : Int)
      ·rw [if_pos c6] at H
       have c6b0 := decide_eq_true c6
       clear c6
       replace H := Option.bind_eq_some_iff.mp H
       obtain ⟨t145, A70, H⟩ := H
       try dsimp only at H
       have A7 := aS_ A70
       clear A70
       by_cases c8 : t145 = true
       ·subst c8
        rw [if_pos rfl] at H
        replace H := Option.bind_eq_some_iff.mp H
        obtain ⟨t146, A90, H⟩ := H
        try dsimp only at H
        have A9 := aS_ A90
        clear A90
        by_cases c10 : t146 ≥ 0
        ·rw [if_pos c10] at H
         have c10b0 := decide_eq_true c10
         clear c10
         obtain rfl := Option.some.inj H
         have p143 : 0 ≤ (x13_1 : Int) := of_decide_eq_true (by first | (with_reducible assumption) | assumption)
         have q143 : x13_1 < (l0.length : Int) := of_decide_eq_true (by first | (with_reducible assumption) | assumption)
         obtain ⟨ad143, e143, hx143_0, hx143_1⟩ := at_T49 HR0.out x13_1 p143 q143
         cases e143
         replace hx143_0 := (HB.out.cell (World.block_lt_of_cell? w _ hx143_0)).trans hx143_0
         replace hx143_1 := (HB.out.cell (World.block_lt_of_cell? w _ hx143_1)).trans hx143_1
         replace p143 := eq_true p143
         replace q143 := eq_true q143
         go_wp2_with (first | (refine bx_ 7 #[.string (⟨#[]⟩ : ByteArray), .int .i64 0] 49 ?_; intro gb144 hg w11 hbox hb; have BK144 := aS_ (hbox); have GW144 := ge_ hg (wk HB.out); have GE144 := ge_ hg (wk HB.out); replace HB := bw_ HB hb; clear hb hbox hg; obtain ⟨hcz12_0, hcz12_1, hfz12_0, hfz12_1⟩ := c2_ BK144.out) | (refine cl_ (some 19) Try.func69 #[.string ((rd_T49 l0 x13_1).f0)] ?_; (with_reducible refine (opcode_MayMark.calls k1 ((rd_T49 l0 x13_1).f0) true _ A7.out).mono ?_); rintro e w' ⟨rfl, ⟨nd, rfl⟩⟩; refine ⟨_, rfl, ?_⟩) | (go_at_call 70; (with_reducible refine (strings_Compare.calls x5_1 ((rd_T49 l0 x13_1).f0) t146 _ A9.out).mono ?_); rintro e w13 ⟨rfl, hb⟩; replace BK144 := aS_ (blk_below (g := gb144) (o := .cells #[.string ((rd_T49 l0 x13_1).f0), .int .i64 ((rd_T49 l0 x13_1).f1)] 49 (0, 0)) (bp BK144.out) hb); replace HB := bw_ HB hb; try clear hb))
         go_ret
         exact ⟨t1, wk HB.out⟩
        ·rw [if_neg c10] at H
         have c10b0 := decide_eq_false c10
         clear c10
         replace H := Option.bind_eq_some_iff.mp H
         obtain ⟨t147, A140, H⟩ := H
         try dsimp only at H
         have A14 := aS_ A140
         clear A140
         by_cases c15 : t147 = true
         ·subst c15
          rw [if_pos rfl] at H
          have H' := aS_ H
          clear H
          have p143 : 0 ≤ (x13_1 : Int) := of_decide_eq_true (by first | (with_reducible assumption) | assumption)
          have q143 : x13_1 < (l0.length : Int) := of_decide_eq_true (by first | (with_reducible assumption) | assumption)
          obtain ⟨ad143, e143, hx143_0, hx143_1⟩ := at_T49 HR0.out x13_1 p143 q143
          cases e143
          replace hx143_0 := (HB.out.cell (World.block_lt_of_cell? w _ hx143_0)).trans hx143_0
          replace hx143_1 := (HB.out.cell (World.block_lt_of_cell? w _ hx143_1)).trans hx143_1
          replace p143 := eq_true p143
          replace q143 := eq_true q143
          go_wp2_with (first | (refine bx_ 7 #[.string (⟨#[]⟩ : ByteArray), .int .i64 0] 49 ?_; intro gb144 hg w16 hbox hb; have BK144 := aS_ (hbox); have GW144 := ge_ hg (wk HB.out); have GE144 := ge_ hg (wk HB.out); replace HB := bw_ HB hb; clear hb hbox hg; obtain ⟨hcz17_0, hcz17_1, hfz17_0, hfz17_1⟩ := c2_ BK144.out) | (refine cl_ (some 19) Try.func69 #[.string ((rd_T49 l0 x13_1).f0)] ?_; (with_reducible refine (opcode_MayMark.calls k1 ((rd_T49 l0 x13_1).f0) true _ A7.out).mono ?_); rintro e w' ⟨rfl, ⟨nd, rfl⟩⟩; refine ⟨_, rfl, ?_⟩) | (go_at_call 70; (with_reducible refine (strings_Compare.calls x5_1 ((rd_T49 l0 x13_1).f0) t146 _ A9.out).mono ?_); rintro e w18 ⟨rfl, hb⟩; replace BK144 := aS_ (blk_below (g := gb144) (o := .cells #[.string ((rd_T49 l0 x13_1).f0), .int .i64 ((rd_T49 l0 x13_1).f1)] 49 (0, 0)) (bp BK144.out) hb); replace HB := bw_ HB hb; try clear hb; obtain ⟨hcz19_0, hcz19_1, hfz19_0, hfz19_1⟩ := c2_ BK144.out) | (go_at_call 71; (with_reducible refine (utf_Edge.calls k1 a1 ((rd_T49 l0 x13_1).f1) true _ A14.out).mono ?_); rintro e w' ⟨rfl, ⟨nd, rfl⟩⟩))
          go_roundg k1
          case measure => have := HK1.out; omega
          case rel => exact ⟨((rd_T49 l0 x13_1).f0), (wrap64 (x13_1 + 1)), t0, t0, H', ⟨t2 HK1⟩, ⟨wk HB.out⟩⟩
         ·replace c15 := Bool.eq_false_iff.mpr c15
          subst c15
          rw [if_neg Bool.false_ne_true] at H
          obtain rfl := Option.some.inj H
          have p143 : 0 ≤ (x13_1 : Int) := of_decide_eq_true (by first | (with_reducible assumption) | assumption)
          have q143 : x13_1 < (l0.length : Int) := of_decide_eq_true (by first | (with_reducible assumption) | assumption)
          obtain ⟨ad143, e143, hx143_0, hx143_1⟩ := at_T49 HR0.out x13_1 p143 q143
          cases e143
          replace hx143_0 := (HB.out.cell (World.block_lt_of_cell? w _ hx143_0)).trans hx143_0
          replace hx143_1 := (HB.out.cell (World.block_lt_of_cell? w _ hx143_1)).trans hx143_1
          replace p143 := eq_true p143
          replace q143 := eq_true q143
          go_wp2_with (first | (refine bx_ 7 #[.string (⟨#[]⟩ : ByteArray), .int .i64 0] 49 ?_; intro gb144 hg w20 hbox hb; have BK144 := aS_ (hbox); have GW144 := ge_ hg (wk HB.out); have GE144 := ge_ hg (wk HB.out); replace HB := bw_ HB hb; clear hb hbox hg; obtain ⟨hcz21_0, hcz21_1, hfz21_0, hfz21_1⟩ := c2_ BK144.out) | (refine cl_ (some 19) Try.func69 #[.string ((rd_T49 l0 x13_1).f0)] ?_; (with_reducible refine (opcode_MayMark.calls k1 ((rd_T49 l0 x13_1).f0) true _ A7.out).mono ?_); rintro e w' ⟨rfl, ⟨nd, rfl⟩⟩; refine ⟨_, rfl, ?_⟩) | (go_at_call 70; (with_reducible refine (strings_Compare.calls x5_1 ((rd_T49 l0 x13_1).f0) t146 _ A9.out).mono ?_); rintro e w22 ⟨rfl, hb⟩; replace BK144 := aS_ (blk_below (g := gb144) (o := .cells #[.string ((rd_T49 l0 x13_1).f0), .int .i64 ((rd_T49 l0 x13_1).f1)] 49 (0, 0)) (bp BK144.out) hb); replace HB := bw_ HB hb; try clear hb; obtain ⟨hcz23_0, hcz23_1, hfz23_0, hfz23_1⟩ := c2_ BK144.out) | (go_at_call 71; (with_reducible refine (utf_Edge.calls k1 a1 ((rd_T49 l0 x13_1).f1) false _ A14.out).mono ?_); rintro e w' ⟨rfl, ⟨nd, rfl⟩⟩))
          go_ret
          exact ⟨t1, wk HB.out⟩
       ·replace c8 := Bool.eq_false_iff.mpr c8
        subst c8
        rw [if_neg Bool.false_ne_true] at H
        obtain rfl := Option.some.inj H
        have p143 : 0 ≤ (x13_1 : Int) := of_decide_eq_true (by first | (with_reducible assumption) | assumption)
        have q143 : x13_1 < (l0.length : Int) := of_decide_eq_true (by first | (with_reducible assumption) | assumption)
        obtain ⟨ad143, e143, hx143_0, hx143_1⟩ := at_T49 HR0.out x13_1 p143 q143
        cases e143
        replace hx143_0 := (HB.out.cell (World.block_lt_of_cell? w _ hx143_0)).trans hx143_0
        replace hx143_1 := (HB.out.cell (World.block_lt_of_cell? w _ hx143_1)).trans hx143_1
        replace p143 := eq_true p143
        replace q143 := eq_true q143
        go_wp2_with (first | (refine bx_ 7 #[.string (⟨#[]⟩ : ByteArray), .int .i64 0] 49 ?_; intro gb144 hg w24 hbox hb; have BK144 := aS_ (hbox); have GW144 := ge_ hg (wk HB.out); have GE144 := ge_ hg (wk HB.out); replace HB := bw_ HB hb; clear hb hbox hg; obtain ⟨hcz25_0, hcz25_1, hfz25_0, hfz25_1⟩ := c2_ BK144.out) | (refine cl_ (some 19) Try.func69 #[.string ((rd_T49 l0 x13_1).f0)] ?_; (with_reducible refine (opcode_MayMark.calls k1 ((rd_T49 l0 x13_1).f0) false _ A7.out).mono ?_); rintro e w' ⟨rfl, ⟨nd, rfl⟩⟩; refine ⟨_, rfl, ?_⟩))
        go_ret
        exact ⟨t1, wk HB.out⟩
      ·rw [if_neg c6] at H
       exact absurd H (by simp)
     ·rw [if_neg c5] at H
      exact absurd H (by simp)
    ·rw [if_neg c4] at H
     have c4b0 := decide_eq_false c4
     clear c4
     obtain rfl := Option.some.inj H
     go_wp2
     go_ret
     exact ⟨t1, wk HB.out⟩
end Go.Proofs.Ytnndanfghlnpfaa.P
