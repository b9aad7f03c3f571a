-- Laid by a program of this session (wip/tools/fork_print.py over the kit's print) out of Lean's print of the translation. Lean checks it.
import Derived.Test.YtfhafkfcedghkaaPx0
import Derived.Test.YtfhafkfcedghkaaPx1
import Derived.Test.YtfhafkfcedghkaaPx2
import Derived.Test.YtfhafkfcedghkaaPx3
import Derived.Test.YtfhafkfcedghkaaPx9
import Derived.Test.YtfhafkfcedghkaaPx21
import Derived.Test.YtfhafkfcedghkaaPx22
namespace Go.Proofs.Ytfhafkfcedghkaa.P
open Go.RowKit Go.Proofs.YtfhafkfcedghkaaW.PrintWords Go.Proofs.YtfhafkfcedghkaaW.PrintLast Go.Proofs.YtfhafkfcedghkaaW.PrintMore
attribute [local go_sem] max2_int min2_int max_two min_two max_three min_three max_four min_four   -- for this text's walks alone
set_option linter.unusedVariables false
set_option linter.unusedSimpArgs false

/-! ### styluslaw25_StateCopies: function 4 -/
-- NEEDS stylus/stylusref25.Few stylus/stylusref25.Same stylus/state.Copy stylus/styluslaw25.lives
-- (printed by wip/tools/gen_copies.py)
def copies_ok (l1 : List S34) (l2 l3 : List S38) (l5 : List S36) : Prop := l1.length ≤ 1000000 ∧ (l2.length ≤ 1000000 ∧ ∀ p ∈ l2, p.f0.length ≤ 1000000) ∧ (l3.length ≤ 1000000 ∧ ∀ p ∈ l3, p.f0.length ≤ 1000000) ∧ l5.length ≤ 1000000
instance (l1 : List S34) (l2 l3 : List S38) (l5 : List S36) : Decidable (copies_ok l1 l2 l3 l5) := by unfold copies_ok; exact inferInstance
/-- A row of n elements that may be written, in a block that S names. -/
def free (W : World) (S : Nat → Prop) (v : Value) (e sz n : Nat) : Prop := n = 0 ∨ ∃ g cap cur, v = .slice (some ⟨g, 0, none⟩) n cap ∧ S g ∧ W.heap[g]? = some (.cells cur e (0, 0)) ∧ n * sz ≤ cur.size
def freeS (W : World) (S : Nat → Prop) (v : Value) (n : Nat) : Prop := n = 0 ∨ ∃ g cap cur, v = .slice (some ⟨g, 0, none⟩) n cap ∧ S g ∧ W.heap[g]? = some (.cells cur 38 (0, 0)) ∧ n ≤ cur.size ∧ ∀ i, i < n → ∃ A m c, cur[i]? = some (.slice A m c) ∧ m ≤ 1000000 ∧ free W S (.slice A m c) 36 3 m
theorem free_set {W : World} {S : Nat → Prop} {v : Value} {e sz n : Nat} (h : free W S v e sz n) (b j : Nat) (u : Value) : free (W.setCell ⟨b, j, none⟩ u) S v e sz n := by
 rcases h with h | ⟨g, cap, cur, rfl, hs, hh, hn⟩
 ·exact .inl h
 ·by_cases hg : g = b
  ·subst hg
   exact .inr ⟨g, cap, _, rfl, hs, blk_set hh j u, by simpa using hn⟩
  ·exact .inr ⟨g, cap, cur, rfl, hs, blk_far hh hg u, hn⟩
theorem freeS_set {W : World} {S : Nat → Prop} {v : Value} {n b j e : Nat} {cs : Array Value} (h : freeS W S v n) (hb : W.heap[b]? = some (.cells cs e (0, 0))) (he : e ≠ 38) (u : Value) : freeS (W.setCell ⟨b, j, none⟩ u) S v n := by
 rcases h with h | ⟨g, cap, cur, rfl, hs, hh, hn, hi⟩
 ·exact .inl h
 ·refine .inr ⟨g, cap, cur, rfl, hs, blk_far hh (blk_ne hh hb (fun h => he h.symm)) u, hn, fun i hl => ?_⟩
  obtain ⟨A, m, c, h1, h2, h3⟩ := hi i hl
  exact ⟨A, m, c, h1, h2, free_set h3 _ _ u⟩
theorem freeS_nil {W : World} {S : Nat → Prop} {v : Value} {n : Nat} (h : freeS W S v n) (b j : Nat) : freeS (W.setCell ⟨b, j, none⟩ (.slice none 0 0)) S v n := by
 rcases h with h | ⟨g, cap, cur, rfl, hs, hh, hn, hi⟩
 ·exact .inl h
 ·by_cases hg : g = b
  ·subst hg
   refine .inr ⟨g, cap, _, rfl, hs, blk_set hh j _, by simpa using hn, fun i hl => ?_⟩
   by_cases hj : j = i
   ·subst hj
    exact ⟨none, 0, 0, by simp [Array.getElem?_setIfInBounds]; omega, by omega, .inl rfl⟩
   ·obtain ⟨A, m, c, h1, h2, h3⟩ := hi i hl
    exact ⟨A, m, c, by rw [Array.getElem?_setIfInBounds_ne hj]; exact h1, h2, free_set h3 _ _ _⟩
  ·refine .inr ⟨g, cap, cur, rfl, hs, blk_far hh hg _, hn, fun i hl => ?_⟩
   obtain ⟨A, m, c, h1, h2, h3⟩ := hi i hl
   exact ⟨A, m, c, h1, h2, free_set h3 _ _ _⟩
/-- What holds while the copy is written to. -/
structure Copies (w W0 : World) (S : Nat → Prop) (v1 v2 v3 v5 : Value) (n1 n2 n3 n5 : Nat) (W : World) : Prop where
 low : ∀ k, S k → w.heap.size ≤ k
 below : Below w.heap.size w W
 kept : Kept W0 W S
 f1 : free W S v1 34 2 n1
 f2 : freeS W S v2 n2
 f3 : freeS W S v3 n3
 f5 : free W S v5 36 3 n5
theorem Copies.write {w W0 W : World} {S : Nat → Prop} {v1 v2 v3 v5 : Value} {n1 n2 n3 n5 b e : Nat} {cs : Array Value} (h : Copies w W0 S v1 v2 v3 v5 n1 n2 n3 n5 W) (hS : S b) (hb : W.heap[b]? = some (.cells cs e (0, 0))) (he : e ≠ 38) (j : Nat) (u : Value) : Copies w W0 S v1 v2 v3 v5 n1 n2 n3 n5 (W.setCell ⟨b, j, none⟩ u) :=
 ⟨h.low, h.below.setCell (h.low _ hS) u, h.kept.setCell (.inl hS) u, free_set h.f1 _ _ u, freeS_set h.f2 hb he u, freeS_set h.f3 hb he u, free_set h.f5 _ _ u⟩
theorem Copies.drop {w W0 W : World} {S : Nat → Prop} {v1 v2 v3 v5 : Value} {n1 n2 n3 n5 : Nat} (h : Copies w W0 S v1 v2 v3 v5 n1 n2 n3 n5 W) {b : Nat} (hS : S b) (j : Nat) : Copies w W0 S v1 v2 v3 v5 n1 n2 n3 n5 (W.setCell ⟨b, j, none⟩ (.slice none 0 0)) :=
 ⟨h.low, h.below.setCell (h.low _ hS) _, h.kept.setCell (.inl hS) _, free_set h.f1 _ _ _, freeS_nil h.f2 _ _, freeS_nil h.f3 _ _, free_set h.f5 _ _ _⟩
theorem Copies.blk {w W0 W : World} {S : Nat → Prop} {v1 v2 v3 v5 : Value} {n1 n2 n3 n5 g : Nat} {o : Obj} (h : Copies w W0 S v1 v2 v3 v5 n1 n2 n3 n5 W) (hg : W0.heap[g]? = some o) (hn : ¬ S g) : W.heap[g]? = some o := blk_kept hg h.kept hn
/-! ### slices_Equal__api_Mark_api_Mark: function 48 -/
-- slices.Equal of two rows of flat structs
def same_Mark (x y : S34) : Bool := x.f0.toList == y.f0.toList && (x.f1 == y.f1)
def same_Marks (x y : List S34) : Bool := x.length == y.length && (x.zip y).all fun p => same_Mark p.1 p.2
def slices_Equal__api_Mark_api_Mark.f (x y : List S34) : Option Bool := if x.length ≤ 1000000 then some (same_Marks x y) else none
theorem same_Mark_ne (a b : S34) (W : World) : (binOp .neq 34 (.agg #[.string a.f0, .int .i64 a.f1]) (.agg #[.string b.f0, .int .i64 b.f1])).run Try.prog W = .ok (.bool (!same_Mark a b)) W := by
 rw [run_neq_struct]
 rw [eqA34 9998]
 rfl
theorem same_Mark_drop (x y : List S34) (i : Nat) (h : i < x.length) (h' : i < y.length) : ((x.drop i).zip (y.drop i)).all (fun p => same_Mark p.1 p.2) = (same_Mark (rd_T34 x (i : Int)) (rd_T34 y (i : Int)) && ((x.drop (i + 1)).zip (y.drop (i + 1))).all (fun p => same_Mark p.1 p.2)) := by
 rw [List.drop_eq_getElem_cons h, List.drop_eq_getElem_cons h', List.zip_cons_cons, List.all_cons]
 simp [rd_T34, List.getD_eq_getElem?_getD, List.getElem?_eq_getElem h, List.getElem?_eq_getElem h']
set_option maxHeartbeats 8000000 in
set_option maxRecDepth 100000 in
theorem slices_Equal__api_Mark_api_Mark.long (A0 : Option Addr) (c0 n : Nat) (x : List S34) (A1 : Option Addr) (c1 : Nat) (y : List S34) (w : World) (hr0 : Kd.C k34 w A0 n x) (hr1 : Kd.C k34 w A1 n y) (hm : n ≤ 1000000) :
  Calls Try.prog 48 #[.slice A0 n c0, .slice A1 n c1] w fun e w' => e = .returned (.bool ((x.zip y).all fun p => same_Mark p.1 p.2)) ∧ Drawn0 w w' := by
 have huS := Try.underlying34
 have hx : x.length = n := hr0.1
 have hy : y.length = n := hr1.1
 have HX := Aside0.mk hx
 have HY := Aside0.mk hy
 have HC0 := Aside0.mk hr0
 have HC1 := Aside0.mk hr1
 clear hr0 hr1 hx hy
 go_enter Try.func48, Try.ntmps48
 go_wp2
 go_loopw [13] (fun v wr => ∃ i : Nat, v = .int .i64 i ∧ i ≤ n ∧ Aside0 (((x.drop i).zip (y.drop i)).all (fun p => same_Mark p.1 p.2) = (x.zip y).all (fun p => same_Mark p.1 p.2)) ∧ ∃ m, wr = w.drewN m) (fun v _ => n - (intOf v).toNat)
 case atStart => exact ⟨0, rfl, Nat.zero_le _, ⟨rfl⟩, 0, rfl⟩
 case round =>
  obtain ⟨i, rfl, hi, HE, m, rfl⟩ := hrel
  by_cases q : i < n
  ·have HD := Aside0.mk (same_Mark_drop x y i (by rw [HX.out]; exact q) (by rw [HY.out]; exact q))
   have p0 : (0 : Int) ≤ (i : Int) := Int.natCast_nonneg _
   have q0 : (i : Int) < (n : Int) := by omega
   obtain ⟨ad0, e0, hx0, hx1⟩ := at_T34 HC0.out (i : Int) p0 q0
   obtain ⟨ad1, e1, hy0, hy1⟩ := at_T34 HC1.out (i : Int) p0 q0
   cases e0
   cases e1
   simp only [Int.toNat_natCast] at hx0 hx1 hy0 hy1
   have hne := fun W => same_Mark_ne (rd_T34 x (i : Int)) (rd_T34 y (i : Int)) W
   cases hb : same_Mark (rd_T34 x (i : Int)) (rd_T34 y (i : Int)) with
   | false =>
    have HB := Aside0.mk hb
    rw [hb] at hne
    clear hb
    go_wp2
    repeat (go_quiet (fail); try go_wp2)
    go_ret
    exact ⟨by rw [← HE.out, HD.out, HB.out]; rfl, by repeat (first | exact Drawn0.refl _ | apply Drawn0.step | exact ⟨_, rfl⟩)⟩
   | true =>
    have HB := Aside0.mk hb
    rw [hb] at hne
    clear hb
    go_wp2
    repeat (go_quiet (fail); try go_wp2)
    go_roundw
    case rel => exact ⟨i + 1, by go_num, by omega, ⟨by rw [← HE.out, HD.out, HB.out]; rfl⟩, _, rfl⟩
    case measure => simp [intOf]; omega
  ·obtain rfl : i = n := by omega
   go_wp2
   repeat (go_quiet (fail); try go_wp2)
   go_ret
   exact ⟨by rw [← HE.out, List.drop_eq_nil_of_le (by rw [HX.out]; exact Nat.le_refl _)]; rfl, by repeat (first | exact Drawn0.refl _ | apply Drawn0.step | exact ⟨_, rfl⟩)⟩
set_option maxHeartbeats 8000000 in
set_option maxRecDepth 100000 in
theorem slices_Equal__api_Mark_api_Mark.calls (A0 : Option Addr) (c0 : Nat) (l0 : List S34) (A1 : Option Addr) (c1 : Nat) (l1 : List S34) (r : Bool) (w : World) (hr0 : Kd.C k34 w A0 l0.length l0) (hc0 : l0.length ≤ c0) (hr1 : Kd.C k34 w A1 l1.length l1) (hc1 : l1.length ≤ c1) (h : slices_Equal__api_Mark_api_Mark.f l0 l1 = some r) :
  Calls Try.prog 48 #[.slice A0 l0.length c0, .slice A1 l1.length c1] w fun e w' => e = .returned (.bool r) ∧ Drawn0 w w' := by
 unfold slices_Equal__api_Mark_api_Mark.f at h
 by_cases hm : l0.length ≤ 1000000
 ·rw [if_pos hm] at h
  obtain rfl := Option.some.inj h
  unfold same_Marks
  by_cases hl : l0.length = l1.length
  ·rw [beq_iff_eq.mpr hl, Bool.true_and]
   rw [← hl] at hr1 ⊢
   exact slices_Equal__api_Mark_api_Mark.long A0 c0 _ l0 A1 c1 l1 w hr0 hr1 hm
  ·rw [beq_eq_false_iff_ne.mpr hl, Bool.false_and]
   have c1 : ((l0.length : Int) != (l1.length : Int)) = true := bne_iff_ne.mpr (by omega)
   have c2 : ((l0.length : Int) == (l1.length : Int)) = false := beq_eq_false_iff_ne.mpr (by omega)
   have c3 : (l0.length == l1.length) = false := beq_eq_false_iff_ne.mpr hl
   clear hl h hm
   go_enter Try.func48, Try.ntmps48
   go_wp2
   repeat (go_quiet (fail); try go_wp2)
   go_ret
   exact ⟨rfl, by repeat (first | exact Drawn0.refl _ | apply Drawn0.step)⟩
 ·rw [if_neg hm] at h
  cases h

/-! ### slices_Equal__api_Edit_api_Edit: function 49 -/
-- slices.Equal of two rows of flat structs
def same_Edit (x y : S36) : Bool := x.f0 == y.f0 && (x.f1.toList == y.f1.toList && (x.f2.toList == y.f2.toList))
def same_Edits (x y : List S36) : Bool := x.length == y.length && (x.zip y).all fun p => same_Edit p.1 p.2
def slices_Equal__api_Edit_api_Edit.f (x y : List S36) : Option Bool := if x.length ≤ 1000000 then some (same_Edits x y) else none
theorem same_Edit_ne (a b : S36) (W : World) : (binOp .neq 36 (.agg #[.int .i64 a.f0, .string a.f1, .string a.f2]) (.agg #[.int .i64 b.f0, .string b.f1, .string b.f2])).run Try.prog W = .ok (.bool (!same_Edit a b)) W := by
 rw [run_neq_struct]
 rw [eqA36 9998]
 rfl
theorem same_Edit_drop (x y : List S36) (i : Nat) (h : i < x.length) (h' : i < y.length) : ((x.drop i).zip (y.drop i)).all (fun p => same_Edit p.1 p.2) = (same_Edit (rd_T36 x (i : Int)) (rd_T36 y (i : Int)) && ((x.drop (i + 1)).zip (y.drop (i + 1))).all (fun p => same_Edit p.1 p.2)) := by
 rw [List.drop_eq_getElem_cons h, List.drop_eq_getElem_cons h', List.zip_cons_cons, List.all_cons]
 simp [rd_T36, List.getD_eq_getElem?_getD, List.getElem?_eq_getElem h, List.getElem?_eq_getElem h']
set_option maxHeartbeats 8000000 in
set_option maxRecDepth 100000 in
theorem slices_Equal__api_Edit_api_Edit.long (A0 : Option Addr) (c0 n : Nat) (x : List S36) (A1 : Option Addr) (c1 : Nat) (y : List S36) (w : World) (hr0 : Kd.C k36 w A0 n x) (hr1 : Kd.C k36 w A1 n y) (hm : n ≤ 1000000) :
  Calls Try.prog 49 #[.slice A0 n c0, .slice A1 n c1] w fun e w' => e = .returned (.bool ((x.zip y).all fun p => same_Edit p.1 p.2)) ∧ Drawn0 w w' := by
 have huS := Try.underlying36
 have hx : x.length = n := hr0.1
 have hy : y.length = n := hr1.1
 have HX := Aside0.mk hx
 have HY := Aside0.mk hy
 have HC0 := Aside0.mk hr0
 have HC1 := Aside0.mk hr1
 clear hr0 hr1 hx hy
 go_enter Try.func49, Try.ntmps49
 go_wp2
 go_loopw [13] (fun v wr => ∃ i : Nat, v = .int .i64 i ∧ i ≤ n ∧ Aside0 (((x.drop i).zip (y.drop i)).all (fun p => same_Edit p.1 p.2) = (x.zip y).all (fun p => same_Edit p.1 p.2)) ∧ ∃ m, wr = w.drewN m) (fun v _ => n - (intOf v).toNat)
 case atStart => exact ⟨0, rfl, Nat.zero_le _, ⟨rfl⟩, 0, rfl⟩
 case round =>
  obtain ⟨i, rfl, hi, HE, m, rfl⟩ := hrel
  by_cases q : i < n
  ·have HD := Aside0.mk (same_Edit_drop x y i (by rw [HX.out]; exact q) (by rw [HY.out]; exact q))
   have p0 : (0 : Int) ≤ (i : Int) := Int.natCast_nonneg _
   have q0 : (i : Int) < (n : Int) := by omega
   obtain ⟨ad0, e0, hx0, hx1, hx2⟩ := at_T36 HC0.out (i : Int) p0 q0
   obtain ⟨ad1, e1, hy0, hy1, hy2⟩ := at_T36 HC1.out (i : Int) p0 q0
   cases e0
   cases e1
   simp only [Int.toNat_natCast] at hx0 hx1 hx2 hy0 hy1 hy2
   have hne := fun W => same_Edit_ne (rd_T36 x (i : Int)) (rd_T36 y (i : Int)) W
   cases hb : same_Edit (rd_T36 x (i : Int)) (rd_T36 y (i : Int)) with
   | false =>
    have HB := Aside0.mk hb
    rw [hb] at hne
    clear hb
    go_wp2
    repeat (go_quiet (fail); try go_wp2)
    go_ret
    exact ⟨by rw [← HE.out, HD.out, HB.out]; rfl, by repeat (first | exact Drawn0.refl _ | apply Drawn0.step | exact ⟨_, rfl⟩)⟩
   | true =>
    have HB := Aside0.mk hb
    rw [hb] at hne
    clear hb
    go_wp2
    repeat (go_quiet (fail); try go_wp2)
    go_roundw
    case rel => exact ⟨i + 1, by go_num, by omega, ⟨by rw [← HE.out, HD.out, HB.out]; rfl⟩, _, rfl⟩
    case measure => simp [intOf]; omega
  ·obtain rfl : i = n := by omega
   go_wp2
   repeat (go_quiet (fail); try go_wp2)
   go_ret
   exact ⟨by rw [← HE.out, List.drop_eq_nil_of_le (by rw [HX.out]; exact Nat.le_refl _)]; rfl, by repeat (first | exact Drawn0.refl _ | apply Drawn0.step | exact ⟨_, rfl⟩)⟩
set_option maxHeartbeats 8000000 in
set_option maxRecDepth 100000 in
theorem slices_Equal__api_Edit_api_Edit.calls (A0 : Option Addr) (c0 : Nat) (l0 : List S36) (A1 : Option Addr) (c1 : Nat) (l1 : List S36) (r : Bool) (w : World) (hr0 : Kd.C k36 w A0 l0.length l0) (hc0 : l0.length ≤ c0) (hr1 : Kd.C k36 w A1 l1.length l1) (hc1 : l1.length ≤ c1) (h : slices_Equal__api_Edit_api_Edit.f l0 l1 = some r) :
  Calls Try.prog 49 #[.slice A0 l0.length c0, .slice A1 l1.length c1] w fun e w' => e = .returned (.bool r) ∧ Drawn0 w w' := by
 unfold slices_Equal__api_Edit_api_Edit.f at h
 by_cases hm : l0.length ≤ 1000000
 ·rw [if_pos hm] at h
  obtain rfl := Option.some.inj h
  unfold same_Edits
  by_cases hl : l0.length = l1.length
  ·rw [beq_iff_eq.mpr hl, Bool.true_and]
   rw [← hl] at hr1 ⊢
   exact slices_Equal__api_Edit_api_Edit.long A0 c0 _ l0 A1 c1 l1 w hr0 hr1 hm
  ·rw [beq_eq_false_iff_ne.mpr hl, Bool.false_and]
   have c1 : ((l0.length : Int) != (l1.length : Int)) = true := bne_iff_ne.mpr (by omega)
   have c2 : ((l0.length : Int) == (l1.length : Int)) = false := beq_eq_false_iff_ne.mpr (by omega)
   have c3 : (l0.length == l1.length) = false := beq_eq_false_iff_ne.mpr hl
   clear hl h hm
   go_enter Try.func49, Try.ntmps49
   go_wp2
   repeat (go_quiet (fail); try go_wp2)
   go_ret
   exact ⟨rfl, by repeat (first | exact Drawn0.refl _ | apply Drawn0.step)⟩
 ·rw [if_neg hm] at h
  cases h

/-! ### state_sameSteps: function 50 -/
-- NEEDS slices.Equal[[]stylus/api.Edit,stylus/api.Edit]
def same_Steps (x y : List S38) : Bool := x.length == y.length && (x.zip y).all fun p => same_Edits p.1.f0 p.2.f0
def state_sameSteps.f (x y : List S38) : Option Bool := if x.length ≤ 1000000 ∧ (∀ p ∈ x, p.f0.length ≤ 1000000) then some (same_Steps x y) else none
theorem same_Steps_drop (x y : List S38) (i : Nat) (h : i < x.length) (h' : i < y.length) : ((x.drop i).zip (y.drop i)).all (fun p => same_Edits p.1.f0 p.2.f0) = (same_Edits (rd_T38 x (i : Int)).f0 (rd_T38 y (i : Int)).f0 && ((x.drop (i + 1)).zip (y.drop (i + 1))).all (fun p => same_Edits p.1.f0 p.2.f0)) := by
 rw [List.drop_eq_getElem_cons h, List.drop_eq_getElem_cons h', List.zip_cons_cons, List.all_cons]
 simp [rd_T38, List.getD_eq_getElem?_getD, List.getElem?_eq_getElem h, List.getElem?_eq_getElem h']
theorem rd_Step_mem (x : List S38) (i : Nat) (h : i < x.length) : rd_T38 x (i : Int) ∈ x := by
 simp [rd_T38, List.getD_eq_getElem?_getD, List.getElem?_eq_getElem h]
set_option maxHeartbeats 4000000 in
set_option maxRecDepth 100000 in
theorem state_sameSteps.one (A0 : Option Addr) (c0 : Nat) (x : List S36) (A1 : Option Addr) (c1 : Nat) (y : List S36) (r : Bool) (w : World) (h0 : Kd.C k36 w A0 x.length x) (hc0 : x.length ≤ c0) (h1 : Kd.C k36 w A1 y.length y) (hc1 : y.length ≤ c1) (h : slices_Equal__api_Edit_api_Edit.f x y = some r) :
  Calls Try.prog 71 #[.agg #[.slice A0 x.length c0], .agg #[.slice A1 y.length c1]] w fun e w' => e = .returned (.bool r) ∧ Below w.heap.size w w' := by
 have huS := Try.underlying38
 have HC0 := Aside0.mk h0
 have Hc0 := Aside0.mk hc0
 have HC1 := Aside0.mk h1
 have Hc1 := Aside0.mk hc1
 have H := Aside0.mk h
 clear h0 hc0 h1 hc1 h
 go_enter Try.func71, Try.ntmps71
 go_wp2_with (go_at_call 49; (refine (slices_Equal__api_Edit_api_Edit.calls A0 c0 x A1 c1 y r _ (Kd.C_alloc (Kd.C_alloc HC0.out _) _) Hc0.out (Kd.C_alloc (Kd.C_alloc HC1.out _) _) Hc1.out H.out).mono ?_); rintro e w2 ⟨rfl, ⟨n, rfl⟩⟩)
 go_ret
 exact ⟨rfl, pw_below_drewN (below_alloc (below_alloc (Below.refl _ _) _) _) _⟩
set_option maxHeartbeats 8000000 in
set_option maxRecDepth 100000 in
theorem state_sameSteps.all (A0 : Option Addr) (c0 : Nat) (x : List S38) (A1 : Option Addr) (c1 n : Nat) (y : List S38) (w : World) (h0 : Kd.C k38 w A0 n x) (h1 : Kd.C k38 w A1 n y) (hm : n ≤ 1000000) (hs : ∀ p ∈ x, p.f0.length ≤ 1000000) :
  Calls Try.prog 70 #[.slice A0 n c0, .slice A1 n c1, .func (.func 71) #[] #[]] w fun e w' => e = .returned (.bool ((x.zip y).all fun p => same_Edits p.1.f0 p.2.f0)) ∧ Below w.heap.size w w' := by
 have huS := Try.underlying38
 have HX := Aside0.mk (show x.length = n from h0.1)
 have HY := Aside0.mk (show y.length = n from h1.1)
 have HC0 := Aside0.mk h0
 have HC1 := Aside0.mk h1
 have HS := Aside0.mk hs
 clear h0 h1 hs
 go_enter Try.func70, Try.ntmps70
 go_wp2
 go_loopw [17] (fun v wr => ∃ i : Nat, v = .int .i64 i ∧ i ≤ n ∧ Aside0 (((x.drop i).zip (y.drop i)).all (fun p => same_Edits p.1.f0 p.2.f0) = (x.zip y).all (fun p => same_Edits p.1.f0 p.2.f0)) ∧ Aside0 (Below w.heap.size w wr)) (fun v _ => n - (intOf v).toNat)
 case atStart => exact ⟨0, rfl, Nat.zero_le _, ⟨rfl⟩, ⟨Below.refl _ _⟩⟩
 case round =>
  obtain ⟨i, rfl, hi, HE, KB⟩ := hrel
  by_cases q : i < n
  ·have HD := Aside0.mk (same_Steps_drop x y i (by rw [HX.out]; exact q) (by rw [HY.out]; exact q))
   have p0 : (0 : Int) ≤ (i : Int) := Int.natCast_nonneg _
   have q0 : (i : Int) < (n : Int) := by omega
   obtain ⟨ad0, B0, d0, e0, hx0, hl0, hC0⟩ := at_T38 (Kd.C_below HC0.out KB.out) (i : Int) p0 q0
   obtain ⟨ad1, B1, d1, e1, hx1, hl1, hC1⟩ := at_T38 (Kd.C_below HC1.out KB.out) (i : Int) p0 q0
   cases e0
   cases e1
   simp only [Int.toNat_natCast] at hx0 hx1
   have hx1a : ∀ o, (wr.alloc o).cell? (ad1.add i) = some (.slice B1 (rd_T38 y (i : Int)).f0.length d1) := fun o => pw_cell_below (below_alloc (Below.refl _ _) o) hx1
   have KC0 := Aside0.mk hC0
   have KC1 := Aside0.mk hC1
   have KL0 := Aside0.mk hl0
   have KL1 := Aside0.mk hl1
   have HA : Aside0 (slices_Equal__api_Edit_api_Edit.f (rd_T38 x (i : Int)).f0 (rd_T38 y (i : Int)).f0 = some (same_Edits (rd_T38 x (i : Int)).f0 (rd_T38 y (i : Int)).f0)) := ⟨if_pos (HS.out _ (rd_Step_mem x i (by rw [HX.out]; exact q)))⟩
   clear hC0 hC1 hl0 hl1
   cases hb : same_Edits (rd_T38 x (i : Int)).f0 (rd_T38 y (i : Int)).f0 with
   | false =>
    rw [hb] at HA
    have HB := Aside0.mk hb
    clear hb
    go_wp2_with (go_at_call 71; (refine (state_sameSteps.one B0 d0 _ B1 d1 _ false _ (Kd.C_alloc (Kd.C_alloc KC0.out _) _) KL0.out (Kd.C_alloc (Kd.C_alloc KC1.out _) _) KL1.out HA.out).mono ?_); rintro e w2 ⟨rfl, hb⟩; have KB2 := Aside0.mk (below_step (below_alloc (below_alloc KB.out _) _) hb); clear hb)
    go_ret
    exact ⟨by rw [← HE.out, HD.out, HB.out]; rfl, KB2.out⟩
   | true =>
    rw [hb] at HA
    have HB := Aside0.mk hb
    clear hb
    go_wp2_with (go_at_call 71; (refine (state_sameSteps.one B0 d0 _ B1 d1 _ true _ (Kd.C_alloc (Kd.C_alloc KC0.out _) _) KL0.out (Kd.C_alloc (Kd.C_alloc KC1.out _) _) KL1.out HA.out).mono ?_); rintro e w2 ⟨rfl, hb⟩; have KB2 := Aside0.mk (below_step (below_alloc (below_alloc KB.out _) _) hb); clear hb)
    go_roundw
    case rel => exact ⟨i + 1, by go_num, by omega, ⟨by rw [← HE.out, HD.out, HB.out]; rfl⟩, ⟨KB2.out⟩⟩
    case measure => simp [intOf]; omega
  ·obtain rfl : i = n := by omega
   go_wp2
   go_ret
   exact ⟨by rw [← HE.out, List.drop_eq_nil_of_le (by rw [HX.out]; exact Nat.le_refl _)]; rfl, KB.out⟩
set_option maxHeartbeats 8000000 in
set_option maxRecDepth 100000 in
theorem state_sameSteps.part (A0 : Option Addr) (c0 : Nat) (l0 : List S38) (A1 : Option Addr) (c1 : Nat) (l1 : List S38) (w : World) (hl : l0.length ≠ l1.length) :
  Calls Try.prog 70 #[.slice A0 l0.length c0, .slice A1 l1.length c1, .func (.func 71) #[] #[]] w fun e w' => e = .returned (.bool false) ∧ Below w.heap.size w w' := by
 have c1 : ((l0.length : Int) != (l1.length : Int)) = true := bne_iff_ne.mpr (by omega)
 have c2 : ((l0.length : Int) == (l1.length : Int)) = false := beq_eq_false_iff_ne.mpr (by omega)
 have c3 : (l0.length == l1.length) = false := beq_eq_false_iff_ne.mpr hl
 clear hl
 go_enter Try.func70, Try.ntmps70
 go_wp2
 go_ret
 exact ⟨rfl, Below.refl _ _⟩
theorem state_sameSteps.func (A0 : Option Addr) (c0 : Nat) (l0 : List S38) (A1 : Option Addr) (c1 : Nat) (l1 : List S38) (r : Bool) (w : World) (hr0 : Kd.C k38 w A0 l0.length l0) (hr1 : Kd.C k38 w A1 l1.length l1) (h : state_sameSteps.f l0 l1 = some r) :
  Calls Try.prog 70 #[.slice A0 l0.length c0, .slice A1 l1.length c1, .func (.func 71) #[] #[]] w fun e w' => e = .returned (.bool r) ∧ Below w.heap.size w w' := by
 unfold state_sameSteps.f at h
 by_cases hm : l0.length ≤ 1000000 ∧ (∀ p ∈ l0, p.f0.length ≤ 1000000)
 ·rw [if_pos hm] at h
  obtain rfl := Option.some.inj h
  unfold same_Steps
  by_cases hl : l0.length = l1.length
  ·rw [beq_iff_eq.mpr hl, Bool.true_and]
   rw [← hl] at hr1 ⊢
   exact state_sameSteps.all A0 c0 l0 A1 c1 _ l1 w hr0 hr1 hm.1 hm.2
  ·rw [beq_eq_false_iff_ne.mpr hl, Bool.false_and]
   exact state_sameSteps.part A0 c0 l0 A1 c1 l1 w hl
 ·rw [if_neg hm] at h
  cases h
set_option maxHeartbeats 8000000 in
set_option maxRecDepth 100000 in
theorem state_sameSteps.calls (A0 : Option Addr) (c0 : Nat) (l0 : List S38) (A1 : Option Addr) (c1 : Nat) (l1 : List S38) (r : Bool) (w : World) (hr0 : Kd.C k38 w A0 l0.length l0) (hc0 : l0.length ≤ c0) (hr1 : Kd.C k38 w A1 l1.length l1) (hc1 : l1.length ≤ c1) (h : state_sameSteps.f l0 l1 = some r) :
  Calls Try.prog 50 #[.slice A0 l0.length c0, .slice A1 l1.length c1] w fun e w' => e = .returned (.bool r) ∧ Below w.heap.size w w' := by
 have hmf : ∀ (fn : Fn) (first cap : Array Value) (w : World), (Instr.makeFunc fn first cap).run Try.prog w = .ok (.func fn first cap) w := fun _ _ _ _ => rfl
 have HA := Aside0.mk (state_sameSteps.func A0 c0 l0 A1 c1 l1 r w hr0 hr1 h)
 clear h hr0 hr1 hc0 hc1
 go_enter Try.func50, Try.ntmps50
 go_wp2_with (go_at_call 70; refine HA.out.mono ?_; rintro e w2 ⟨rfl, hb⟩)
 go_ret
 exact ⟨rfl, hb⟩

end Go.Proofs.Ytfhafkfcedghkaa.P
