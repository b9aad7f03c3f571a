-- Laid by a program of this session (wip/tools/fork_print.py over the kit's print) out of Lean's print of the translation. Lean checks it.
import Derived.Test.YtfhafkfcedghkaaPx0
import Derived.Test.YtfhafkfcedghkaaPx3
import Derived.Test.YtfhafkfcedghkaaPx8
import Derived.Test.YtfhafkfcedghkaaPx9
import Derived.Test.YtfhafkfcedghkaaPx15
import Derived.Test.YtfhafkfcedghkaaPx17
import Derived.Test.YtfhafkfcedghkaaPx18
import Derived.Test.YtfhafkfcedghkaaPx19
namespace Go.Proofs.Ytfhafkfcedghkaa.P
open Go.RowKit Go.Proofs.YtfhafkfcedghkaaW.PrintWords Go.Proofs.YtfhafkfcedghkaaW.PrintLast Go.Proofs.YtfhafkfcedghkaaW.PrintMore
attribute [local go_sem] max2_int min2_int max_two min_two max_three min_three max_four min_four   -- for this text's walks alone
set_option linter.unusedVariables false
set_option linter.unusedSimpArgs false

/-! ### slices_Clone__api_Mark_api_Mark: function 42 -/
-- slices.Clone of a row of flat structs: a row of its own
def slices_Clone__api_Mark_api_Mark.f (l : List S34) : Option (List S34) := if l.length ≤ 1000000 then some l else none
theorem clone_info34 : (Try.prog.info? 34).map (fun i => (i.zero, i.size, i.bytes)) = some (some (.agg #[(.string ⟨#[]⟩), (.int .i64 0)]), 2, 24) := by kernel_rfl
set_option maxHeartbeats 8000000 in
set_option maxRecDepth 100000 in
theorem slices_Clone__api_Mark_api_Mark.calls (A0 : Option Addr) (c0 : Nat) (l0 : List S34) (r : List S34) (w : World) (hr0 : Kd.C k34 w A0 l0.length l0) (hc0 : l0.length ≤ c0) (h : slices_Clone__api_Mark_api_Mark.f l0 = some r) :
  Calls Try.prog 42 #[.slice A0 l0.length c0] w fun e w' => ∃ v0_ : Value, e = .returned v0_ ∧ Kd.R k34 34 w' w.heap.size (fun _ => True) v0_ r ∧ Below w.heap.size w w' := by
 unfold slices_Clone__api_Mark_api_Mark.f at h
 by_cases hl : l0.length ≤ 1000000
 ·rw [if_pos hl] at h
  obtain rfl := Option.some.inj h
  have HC := Aside0.mk hr0
  have HL := Aside0.mk hl
  cases A0 with
  | none =>
   have h0 : l0 = [] := by
    rcases Nat.eq_zero_or_pos l0.length with h0 | h0
    ·exact List.eq_nil_of_length_eq_zero h0
    ·obtain ⟨ad, h, _⟩ := hr0.2.2 h0
     cases h
   clear hr0 hl hc0 h
   have hq : ∀ (n c : Nat) (W : World), (binOp .eql 22 (.slice none n c) (.slice none 0 0)).run Try.prog W = .ok (.bool true) W := fun n c W => by kernel_rfl
   go_enter Try.func42, Try.ntmps42
   go_wp2_with fail
   go_ret
   rw [h0]
   exact ⟨_, rfl, Kd.R_nil _ _ _ _ _, Below.refl _ _⟩
  | some ad =>
   clear hr0 hl hc0 h
   have hq : ∀ (n c : Nat) (W : World), (binOp .eql 22 (.slice (some ad) n c) (.slice none 0 0)).run Try.prog W = .ok (.bool false) W := fun n c W => by kernel_rfl
   go_enter Try.func42, Try.ntmps42
   go_wp2_with (first
    | ((with_reducible refine gate_dst (N := 5) rfl ?_); refine Kd.R_lit k34 (w0 := w) w.heap.size 34 ?hg (N := 5) ?hd (xs := ([] : List S34)) (inner := []) (ok := fun _ => True) (okp := fun _ => True) ?hr ?hp (fun _ hk => hk) trivial (Below.refl _ _) (Nat.le_refl _) (by simp) ?_; (case hd => rfl); (case hg => rfl); (case hr => first | (go_simp; done) | (go_simp; rfl)); (case hp => exact (Reps.none _ _)); intro v5 w2 ho hb hg_ hnew_; have HO := Aside0.mk ho; have HB := Aside0.mk hb; clear hg_ ho hb hnew_)
    | ((with_reducible refine gate_builtin (b := .append) (xs := #[.tmp 5, .tmp 6]) rfl ?_); (try (refine gate_guard (by rfl) ?_; dsimp only)); at_builtin; refine Kd.R_append_rows k34 (Rr := k34.K w2) (w0 := w) w.heap.size rfl (.tmp 5) (.tmp 6) 22 34 (.agg #[(.string ⟨#[]⟩), (.int .i64 0)]) 24 rfl Try.underlying22 clone_info34 rfl (by decide) (by decide) v5 [] l0 (some ad) l0.length c0 (fun _ => True) (fun _ => False) rfl rfl HO.out (Kd.C_below HC.out HB.out) (fun _ _ h => h) (fun _ hk => hk.elim) (fun _ _ => trivial) HB.out HB.out.size (by have := HL.out; simp only [List.length_nil]; omega) ?_; intro v7 w3 hN hb3 hg3 hat3; clear hg3 hat3))
   go_ret
   exact ⟨_, rfl, hN, hb3⟩
 ·rw [if_neg hl] at h
  cases h

/-! ### slices_Clone__api_Edit_api_Edit: function 43 -/
-- slices.Clone of a row of flat structs: a row of its own
def slices_Clone__api_Edit_api_Edit.f (l : List S36) : Option (List S36) := if l.length ≤ 1000000 then some l else none
theorem clone_info36 : (Try.prog.info? 36).map (fun i => (i.zero, i.size, i.bytes)) = some (some (.agg #[(.int .i64 0), (.string ⟨#[]⟩), (.string ⟨#[]⟩)]), 3, 40) := by kernel_rfl
set_option maxHeartbeats 8000000 in
set_option maxRecDepth 100000 in
theorem slices_Clone__api_Edit_api_Edit.calls (A0 : Option Addr) (c0 : Nat) (l0 : List S36) (r : List S36) (w : World) (hr0 : Kd.C k36 w A0 l0.length l0) (hc0 : l0.length ≤ c0) (h : slices_Clone__api_Edit_api_Edit.f l0 = some r) :
  Calls Try.prog 43 #[.slice A0 l0.length c0] w fun e w' => ∃ v0_ : Value, e = .returned v0_ ∧ Kd.R k36 36 w' w.heap.size (fun _ => True) v0_ r ∧ Below w.heap.size w w' := by
 unfold slices_Clone__api_Edit_api_Edit.f at h
 by_cases hl : l0.length ≤ 1000000
 ·rw [if_pos hl] at h
  obtain rfl := Option.some.inj h
  have HC := Aside0.mk hr0
  have HL := Aside0.mk hl
  cases A0 with
  | none =>
   have h0 : l0 = [] := by
    rcases Nat.eq_zero_or_pos l0.length with h0 | h0
    ·exact List.eq_nil_of_length_eq_zero h0
    ·obtain ⟨ad, h, _⟩ := hr0.2.2 h0
     cases h
   clear hr0 hl hc0 h
   have hq : ∀ (n c : Nat) (W : World), (binOp .eql 24 (.slice none n c) (.slice none 0 0)).run Try.prog W = .ok (.bool true) W := fun n c W => by kernel_rfl
   go_enter Try.func43, Try.ntmps43
   go_wp2_with fail
   go_ret
   rw [h0]
   exact ⟨_, rfl, Kd.R_nil _ _ _ _ _, Below.refl _ _⟩
  | some ad =>
   clear hr0 hl hc0 h
   have hq : ∀ (n c : Nat) (W : World), (binOp .eql 24 (.slice (some ad) n c) (.slice none 0 0)).run Try.prog W = .ok (.bool false) W := fun n c W => by kernel_rfl
   go_enter Try.func43, Try.ntmps43
   go_wp2_with (first
    | ((with_reducible refine gate_dst (N := 5) rfl ?_); refine Kd.R_lit k36 (w0 := w) w.heap.size 36 ?hg (N := 5) ?hd (xs := ([] : List S36)) (inner := []) (ok := fun _ => True) (okp := fun _ => True) ?hr ?hp (fun _ hk => hk) trivial (Below.refl _ _) (Nat.le_refl _) (by simp) ?_; (case hd => rfl); (case hg => rfl); (case hr => first | (go_simp; done) | (go_simp; rfl)); (case hp => exact (Reps.none _ _)); intro v5 w2 ho hb hg_ hnew_; have HO := Aside0.mk ho; have HB := Aside0.mk hb; clear hg_ ho hb hnew_)
    | ((with_reducible refine gate_builtin (b := .append) (xs := #[.tmp 5, .tmp 6]) rfl ?_); (try (refine gate_guard (by rfl) ?_; dsimp only)); at_builtin; refine Kd.R_append_rows k36 (Rr := k36.K w2) (w0 := w) w.heap.size rfl (.tmp 5) (.tmp 6) 24 36 (.agg #[(.int .i64 0), (.string ⟨#[]⟩), (.string ⟨#[]⟩)]) 40 rfl Try.underlying24 clone_info36 rfl (by decide) (by decide) v5 [] l0 (some ad) l0.length c0 (fun _ => True) (fun _ => False) rfl rfl HO.out (Kd.C_below HC.out HB.out) (fun _ _ h => h) (fun _ hk => hk.elim) (fun _ _ => trivial) HB.out HB.out.size (by have := HL.out; simp only [List.length_nil]; omega) ?_; intro v7 w3 hN hb3 hg3 hat3; clear hg3 hat3))
   go_ret
   exact ⟨_, rfl, hN, hb3⟩
 ·rw [if_neg hl] at h
  cases h

/-! ### state_copySteps: function 44 -/
-- NEEDS slices.Clone[[]stylus/api.Edit,stylus/api.Edit]
def state_copySteps.f (l : List S38) : Option (List S38) := if l.length ≤ 1000000 ∧ (∀ p ∈ l, p.f0.length ≤ 1000000) then some l else none
section
variable {P : Program} {ops : Array Oper} {rest : List Oper} {o : Oper} {a : Act} {Q : Exit → Act → World → Prop} {α : Type}
theorem R_make_cap (d : Kd α) {w0 W : World} (base e : Nat) (hgd : o.guard = none) {N : Tmp} (hd : o.dst = some N) (t : TypeId) (x y : Operand) (ho : o.op = .makeSlice t x y) (n : Nat) (hx : a.eval x = .int .i64 0) (hy : a.eval y = .int .i64 n)
  (ht : P.underlying t = some (.slice e)) (z : Value) (bytes : Nat) (hinfo : (P.info? e).map (fun i => (i.zero, i.size, i.bytes)) = some (some z, d.sz, bytes))
  {ok : Nat → Prop} (hfresh : ok W.heap.size) (hl : n * bytes ≤ 281474976710656) (hm : n ≤ maxLen) (HB : Below base w0 W) (hbase : base ≤ W.heap.size)
  (h : ∀ v1 w1, d.R e w1 base ok v1 [] → Below base w0 w1 → W.grownBy w1 none → wpList P ops Q rest (a.put o.dst v1) w1) : wpList P ops Q (o :: rest) a W := by
 obtain ⟨i0, hi, hzz⟩ := Option.map_eq_some_iff.1 hinfo
 simp only [Prod.mk.injEq] at hzz
 obtain ⟨hz0, hz1, hz2⟩ := hzz
 obtain ⟨w1, hr, hown, hg⟩ := run_make_own (P := P) W base t e i0 z d.sz ht hi hz0 hz1 .i64 .i64 n (by rw [hz2, Nat.mul_comm]; exact hl) hm hbase
 refine Kd.event_run hgd (w1 := w1) (v := .slice (some ⟨W.heap.size, 0, none⟩) 0 n) (by simp [execOp, ho, hx, hy, hr]) (h _ _ ⟨fun k hk => ?_, [], hown, Reps.none _ _⟩ (HB.grown hg hbase (by simp)) hg)
 have : W.heap.size = k := by simpa [Value.ownBlock] using hk
 subst this
 exact hfresh
end
theorem copySteps_snoc (l : List S38) (i : Nat) (h : i < l.length) : l.take (i + 1) = l.take i ++ [rd_T38 l (i : Int)] := by
 rw [List.take_succ_eq_append_getElem h]
 simp [rd_T38, List.getD_eq_getElem?_getD, List.getElem?_eq_getElem h]
theorem copySteps_mem (x : List S38) (i : Nat) (h : i < x.length) : rd_T38 x (i : Int) ∈ x := by
 simp [rd_T38, List.getD_eq_getElem?_getD, List.getElem?_eq_getElem h]
set_option maxHeartbeats 8000000 in
set_option maxRecDepth 100000 in
theorem state_copySteps.long (A0 : Option Addr) (c0 n : Nat) (l : List S38) (w : World) (hr0 : Kd.C k38 w A0 n l) (hm : n ≤ 1000000) (hs : ∀ p ∈ l, p.f0.length ≤ 1000000) :
  Calls Try.prog 44 #[.slice A0 n c0] w fun e w' => ∃ v0_ : Value, e = .returned v0_ ∧ Kd.R k38 38 w' w.heap.size (fun _ => True) v0_ l ∧ Below w.heap.size w w' := by
 have huS := Try.underlying38
 have HX := Aside0.mk (show l.length = n from hr0.1)
 have HC := Aside0.mk hr0
 have HS := Aside0.mk hs
 clear hr0 hs
 go_enter Try.func44, Try.ntmps44
 go_wp2_with ((with_reducible refine gate_dst (N := 8) rfl ?_); refine R_make_cap k38 (w0 := w) w.heap.size 38 ?hg (N := 8) ?hd 23 (.const (.int .i64 0)) (.tmp 7) ?ho n rfl ?hy Try.underlying23 (.agg #[.slice none 0 0]) 24 info38 (ok := fun _ => True) trivial (by omega) (by unfold maxLen; omega) (Below.refl _ _) (Nat.le_refl _) ?_; (case hd => rfl); (case hg => rfl); (case ho => rfl); (case hy => first | rfl | (go_simp; done)); intro v3 w1 hR hB hg_; have HR := Aside0.mk hR; have HB := Aside0.mk hB; clear hR hB hg_)
 go_loopw [3, 11] (fun v x wr => ∃ i : Nat, x = .int .i64 i ∧ i ≤ n ∧ Aside0 (Kd.R k38 38 wr w.heap.size (fun _ => True) v (l.take i)) ∧ Aside0 (Below w.heap.size w wr)) (fun _ x _ => n - (intOf x).toNat)
 case atStart => exact ⟨0, rfl, Nat.zero_le _, HR, HB⟩
 case round =>
  obtain ⟨i, rfl, hi, HR, KB⟩ := hrel
  by_cases q : i < n
  ·have p0 : (0 : Int) ≤ (i : Int) := Int.natCast_nonneg _
   have q0 : (i : Int) < (n : Int) := by omega
   obtain ⟨ad0, B0, d0, e0, hx0, hl0, hC0⟩ := at_T38 (Kd.C_below HC.out KB.out) (i : Int) p0 q0
   cases e0
   simp only [Int.toNat_natCast] at hx0
   have KC0 := Aside0.mk hC0
   have KL0 := Aside0.mk hl0
   have HA : Aside0 (slices_Clone__api_Edit_api_Edit.f (rd_T38 l (i : Int)).f0 = some (rd_T38 l (i : Int)).f0) := ⟨if_pos (HS.out _ (copySteps_mem l i (by rw [HX.out]; exact q)))⟩
   have HT := Aside0.mk (copySteps_snoc l i (by rw [HX.out]; exact q))
   have HI := Aside0.mk (show (l.take i).length = i by rw [List.length_take, HX.out]; omega)
   clear hC0 hl0
   go_wp2_with (first
    | (go_at_call 43; (refine (slices_Clone__api_Edit_api_Edit.calls B0 d0 _ _ _ (Kd.C_alloc KC0.out _) KL0.out HA.out).mono ?_); rintro e w2 ⟨v18, rfl, hR2, hb2⟩; obtain ⟨A18, c18, rfl⟩ := Kd.R_slice hR2; have KB2 := Aside0.mk (below_step (below_alloc KB.out _) hb2); have HR2 := Aside0.mk (Kd.R_below (Kd.R_alloc HR.out _) hb2); have HM := Aside0.mk (show k38.M w2 w.heap.size (fun k => wr.heap.size ≤ k) ⟨(rd_T38 l (i : Int)).f0⟩ [.slice A18 (rd_T38 l (i : Int)).f0.length c18] from ⟨_, rfl, Kd.R_lower (Kd.R_mono (Kd.R_bound hR2) (fun k hk => Nat.le_trans (by simp) hk.2.1)) (Nat.le_trans KB.out.size (by simp))⟩); clear hR2 hb2)
    | ((with_reducible refine gate_builtin (b := .append) (xs := #[.tmp 15, .tmp 20]) rfl ?_); (try (refine gate_guard (by rfl) ?_; dsimp only)); at_builtin; refine Kd.R_append k38 (w0 := w) w.heap.size rfl (.tmp 15) (.tmp 20) 23 38 (.agg #[.slice none 0 0]) 24 rfl Try.underlying23 info38 rfl (by decide) (by decide) _ (l.take i) ⟨(rd_T38 l (i : Int)).f0⟩ [.slice A18 (rd_T38 l (i : Int)).f0.length c18] (fun _ => True) (fun k => wr.heap.size ≤ k) rfl rfl HM.out (fun k hk => ⟨trivial, fun e => by obtain ⟨inner, ho⟩ := Kd.R_own HR.out; have := own_lt ho k e.symm; omega⟩) (fun _ _ => trivial) HR2.out KB2.out KB2.out.size (by rw [HI.out]; omega) ?_; intro v21 w3 hR3 hB3 hg3 hat3; have HR3 := Aside0.mk hR3; have KB3 := Aside0.mk hB3; clear hR3 hB3 hg3 hat3))
   go_roundw
   case rel => exact ⟨i + 1, by go_num, by omega, ⟨by rw [HT.out]; exact HR3.out⟩, ⟨KB3.out⟩⟩
   case measure => simp [intOf]; omega
  ·obtain rfl : i = n := by omega
   go_wp2
   go_ret
   exact ⟨_, rfl, by have := HR.out; rwa [List.take_of_length_le (by rw [HX.out]; exact Nat.le_refl _)] at this, KB.out⟩
theorem state_copySteps.calls (A0 : Option Addr) (c0 : Nat) (l0 : List S38) (r : List S38) (w : World) (hr0 : Kd.C k38 w A0 l0.length l0) (hc0 : l0.length ≤ c0) (h : state_copySteps.f l0 = some r) :
  Calls Try.prog 44 #[.slice A0 l0.length c0] w fun e w' => ∃ v0_ : Value, e = .returned v0_ ∧ Kd.R k38 38 w' w.heap.size (fun _ => True) v0_ r ∧ Below w.heap.size w w' := by
 unfold state_copySteps.f at h
 by_cases hm : l0.length ≤ 1000000 ∧ (∀ p ∈ l0, p.f0.length ≤ 1000000)
 ·rw [if_pos hm] at h
  obtain rfl := Option.some.inj h
  exact state_copySteps.long A0 c0 _ l0 w hr0 hm.1 hm.2
 ·rw [if_neg hm] at h
  cases h

end Go.Proofs.Ytfhafkfcedghkaa.P
