-- Laid by a program of this session (wip/tools/fork_print.py over the kit's print) out of Lean's print of the translation. Lean checks it.
import Derived.Test.YtfhafkfcedghkaaPx0
import Derived.Test.YtfhafkfcedghkaaPx1
import Derived.Test.YtfhafkfcedghkaaPx2
import Derived.Test.YtfhafkfcedghkaaPx3
import Derived.Test.YtfhafkfcedghkaaPx9
import Derived.Test.YtfhafkfcedghkaaPx21
import Derived.Test.YtfhafkfcedghkaaPx22
namespace Go.Proofs.Ytfhafkfcedghkaa.P
open Go.RowKit Go.Proofs.YtfhafkfcedghkaaW.PrintWords Go.Proofs.YtfhafkfcedghkaaW.PrintLast Go.Proofs.YtfhafkfcedghkaaW.PrintMore
attribute [local go_sem] max2_int min2_int max_two min_two max_three min_three max_four min_four   -- for this text's walks alone
set_option linter.unusedVariables false
set_option linter.unusedSimpArgs false

/-! ### styluslaw25_StateCopies: function 4 -/
-- NEEDS stylus/stylusref25.Few stylus/stylusref25.Same stylus/state.Copy stylus/styluslaw25.lives
-- (printed by wip/tools/gen_copies.py)
def copies_ok (l1 : List S34) (l2 l3 : List S38) (l5 : List S36) : Prop := l1.length ≤ 1000000 ∧ (l2.length ≤ 1000000 ∧ ∀ p ∈ l2, p.f0.length ≤ 1000000) ∧ (l3.length ≤ 1000000 ∧ ∀ p ∈ l3, p.f0.length ≤ 1000000) ∧ l5.length ≤ 1000000
instance (l1 : List S34) (l2 l3 : List S38) (l5 : List S36) : Decidable (copies_ok l1 l2 l3 l5) := by unfold copies_ok; exact inferInstance
theorem copies_copy {l1 : List S34} {l2 l3 : List S38} {l5 : List S36} (h : copies_ok l1 l2 l3 l5) : copy_ok l1 l2 l3 l5 := ⟨if_pos h.1, if_pos h.2.1, if_pos h.2.2.1, if_pos h.2.2.2⟩
def styluslaw25_StateCopies.f (k : Nat) (a0_0 : ByteArray) (l0_1 : List S34) (l0_2 l0_3 : List S38) (a0_4 : Bool) (l0_5 : List S36) : Option Bool :=
 (stylusref25_Few.f k a0_0 l0_1 l0_2 l0_3 a0_4 l0_5).bind fun b => if b = true then (if copies_ok l0_1 l0_2 l0_3 l0_5 then ((stylusref25_Same.f k a0_0 l0_1 l0_2 l0_3 a0_4 l0_5 a0_0 l0_1 l0_2 l0_3 a0_4 l0_5).bind fun s => if s = true then styluslaw25_lives.f k else none) else none) else styluslaw25_lives.f k
/-- A row of n elements that may be written, in a block that S names. -/
def free (W : World) (S : Nat → Prop) (v : Value) (e sz n : Nat) : Prop := n = 0 ∨ ∃ g cap cur, v = .slice (some ⟨g, 0, none⟩) n cap ∧ S g ∧ W.heap[g]? = some (.cells cur e (0, 0)) ∧ n * sz ≤ cur.size
def freeS (W : World) (S : Nat → Prop) (v : Value) (n : Nat) : Prop := n = 0 ∨ ∃ g cap cur, v = .slice (some ⟨g, 0, none⟩) n cap ∧ S g ∧ W.heap[g]? = some (.cells cur 38 (0, 0)) ∧ n ≤ cur.size ∧ ∀ i, i < n → ∃ A m c, cur[i]? = some (.slice A m c) ∧ m ≤ 1000000 ∧ free W S (.slice A m c) 36 3 m
theorem free_set {W : World} {S : Nat → Prop} {v : Value} {e sz n : Nat} (h : free W S v e sz n) (b j : Nat) (u : Value) : free (W.setCell ⟨b, j, none⟩ u) S v e sz n := by
 rcases h with h | ⟨g, cap, cur, rfl, hs, hh, hn⟩
 ·exact .inl h
 ·by_cases hg : g = b
  ·subst hg
   exact .inr ⟨g, cap, _, rfl, hs, blk_set hh j u, by simpa using hn⟩
  ·exact .inr ⟨g, cap, cur, rfl, hs, blk_far hh hg u, hn⟩
theorem freeS_set {W : World} {S : Nat → Prop} {v : Value} {n b j e : Nat} {cs : Array Value} (h : freeS W S v n) (hb : W.heap[b]? = some (.cells cs e (0, 0))) (he : e ≠ 38) (u : Value) : freeS (W.setCell ⟨b, j, none⟩ u) S v n := by
 rcases h with h | ⟨g, cap, cur, rfl, hs, hh, hn, hi⟩
 ·exact .inl h
 ·refine .inr ⟨g, cap, cur, rfl, hs, blk_far hh (blk_ne hh hb (fun h => he h.symm)) u, hn, fun i hl => ?_⟩
  obtain ⟨A, m, c, h1, h2, h3⟩ := hi i hl
  exact ⟨A, m, c, h1, h2, free_set h3 _ _ u⟩
theorem freeS_nil {W : World} {S : Nat → Prop} {v : Value} {n : Nat} (h : freeS W S v n) (b j : Nat) : freeS (W.setCell ⟨b, j, none⟩ (.slice none 0 0)) S v n := by
 rcases h with h | ⟨g, cap, cur, rfl, hs, hh, hn, hi⟩
 ·exact .inl h
 ·by_cases hg : g = b
  ·subst hg
   refine .inr ⟨g, cap, _, rfl, hs, blk_set hh j _, by simpa using hn, fun i hl => ?_⟩
   by_cases hj : j = i
   ·subst hj
    exact ⟨none, 0, 0, by simp [Array.getElem?_setIfInBounds]; omega, by omega, .inl rfl⟩
   ·obtain ⟨A, m, c, h1, h2, h3⟩ := hi i hl
    exact ⟨A, m, c, by rw [Array.getElem?_setIfInBounds_ne hj]; exact h1, h2, free_set h3 _ _ _⟩
  ·refine .inr ⟨g, cap, cur, rfl, hs, blk_far hh hg _, hn, fun i hl => ?_⟩
   obtain ⟨A, m, c, h1, h2, h3⟩ := hi i hl
   exact ⟨A, m, c, h1, h2, free_set h3 _ _ _⟩
theorem free_below {W W' : World} {S : Nat → Prop} {v : Value} {e sz n : Nat} (h : free W S v e sz n) (hb : Below W.heap.size W W') : free W' S v e sz n := by
 rcases h with h | ⟨g, cap, cur, rfl, hs, hh, hn⟩
 ·exact .inl h
 ·exact .inr ⟨g, cap, cur, rfl, hs, blk_below hh hb, hn⟩
theorem freeS_below {W W' : World} {S : Nat → Prop} {v : Value} {n : Nat} (h : freeS W S v n) (hb : Below W.heap.size W W') : freeS W' S v n := by
 rcases h with h | ⟨g, cap, cur, rfl, hs, hh, hn, hi⟩
 ·exact .inl h
 ·refine .inr ⟨g, cap, cur, rfl, hs, blk_below hh hb, hn, fun i hl => ?_⟩
  obtain ⟨A, m, c, h1, h2, h3⟩ := hi i hl
  exact ⟨A, m, c, h1, h2, free_below h3 hb⟩
theorem free_R {α : Type} {d : Kd α} {e : Nat} {W : World} {base : Nat} {ok : Nat → Prop} {A : Option Addr} {n c : Nat} {xs : List α} (h : d.R e W base ok (.slice A n c) xs) (hn : n = xs.length) : free W (fun k => base ≤ k ∧ k < W.heap.size) (.slice A n c) e d.sz n := by
 obtain ⟨inner, ho⟩ := Kd.R_own h
 rcases Nat.eq_zero_or_pos n with h0 | h0
 ·exact .inl h0
 ·rw [← hn] at ho
  obtain ⟨g, cap, e1, e2, e3⟩ := ho.form h0
  rcases ho.2 with ⟨_, h1⟩ | ⟨g', cap', cur, he, hb, hh, h1, h2, h3, h4⟩
  ·omega
  ·refine .inr ⟨g', cap', cur, he, ⟨hb, blk_lt hh⟩, hh, ?_⟩
   rw [h3]
   exact Nat.mul_le_mul_right _ h1
theorem freeS_R {W : World} {base : Nat} {ok : Nat → Prop} {A : Option Addr} {n c : Nat} {xs : List S38} (h : Kd.R k38 38 W base ok (.slice A n c) xs) (hn : n = xs.length) (hm : ∀ p ∈ xs, p.f0.length ≤ 1000000) : freeS W (fun k => base ≤ k ∧ k < W.heap.size) (.slice A n c) n := by
 obtain ⟨h0, inner, ho, hr⟩ := h
 rcases Nat.eq_zero_or_pos n with hz | hp
 ·exact .inl hz
 ·rw [← hn] at ho
  rcases ho.2 with ⟨_, h1⟩ | ⟨g', cap', cur, he, hb, hh, h1, h2, h3, h4⟩
  ·omega
  ·refine .inr ⟨g', cap', cur, he, ⟨hb, blk_lt hh⟩, hh, by rw [h3]; exact Nat.le_trans h1 (Nat.le_of_eq (Nat.mul_one _).symm), fun i hi => ?_⟩
   have hx : xs[i]? = some (xs[i]'(by omega)) := List.getElem?_eq_getElem (by omega)
   obtain ⟨v, hv, hR⟩ := hr.2 i _ hx
   obtain ⟨A', c', rfl⟩ := Kd.R_slice hR
   refine ⟨A', _, c', ?_, hm _ (List.getElem_mem _), free_R hR rfl⟩
   have hs1 : k38.sz = 1 := rfl
   have h5 : inner[i]? = some (.slice A' (xs[i]'(by omega)).f0.length c') := by
    have h6 : ((inner.drop (i * 1)).take 1)[0]? = some (.slice A' (xs[i]'(by omega)).f0.length c') := by
     rw [hs1] at hv
     rw [hv]; rfl
    rw [List.getElem?_take] at h6
    simpa using h6
   rw [← h4] at h5
   rw [List.getElem?_take] at h5
   have hi' : i < n * k38.sz := by rw [hs1]; omega
   rw [if_pos hi'] at h5
   simpa using h5
/-- What holds while the copy is written to. -/
structure Copies (w W0 : World) (S : Nat → Prop) (v1 v2 v3 v5 : Value) (n1 n2 n3 n5 : Nat) (W : World) : Prop where
 low : ∀ k, S k → w.heap.size ≤ k
 below : Below w.heap.size w W
 kept : Kept W0 W S
 f1 : free W S v1 34 2 n1
 f2 : freeS W S v2 n2
 f3 : freeS W S v3 n3
 f5 : free W S v5 36 3 n5
theorem Copies.write {w W0 W : World} {S : Nat → Prop} {v1 v2 v3 v5 : Value} {n1 n2 n3 n5 b e : Nat} {cs : Array Value} (h : Copies w W0 S v1 v2 v3 v5 n1 n2 n3 n5 W) (hS : S b) (hb : W.heap[b]? = some (.cells cs e (0, 0))) (he : e ≠ 38) (j : Nat) (u : Value) : Copies w W0 S v1 v2 v3 v5 n1 n2 n3 n5 (W.setCell ⟨b, j, none⟩ u) :=
 ⟨h.low, h.below.setCell (h.low _ hS) u, h.kept.setCell (.inl hS) u, free_set h.f1 _ _ u, freeS_set h.f2 hb he u, freeS_set h.f3 hb he u, free_set h.f5 _ _ u⟩
theorem Copies.drop {w W0 W : World} {S : Nat → Prop} {v1 v2 v3 v5 : Value} {n1 n2 n3 n5 : Nat} (h : Copies w W0 S v1 v2 v3 v5 n1 n2 n3 n5 W) {b : Nat} (hS : S b) (j : Nat) : Copies w W0 S v1 v2 v3 v5 n1 n2 n3 n5 (W.setCell ⟨b, j, none⟩ (.slice none 0 0)) :=
 ⟨h.low, h.below.setCell (h.low _ hS) _, h.kept.setCell (.inl hS) _, free_set h.f1 _ _ _, freeS_nil h.f2 _ _, freeS_nil h.f3 _ _, free_set h.f5 _ _ _⟩
theorem Copies.blk {w W0 W : World} {S : Nat → Prop} {v1 v2 v3 v5 : Value} {n1 n2 n3 n5 g : Nat} {o : Obj} (h : Copies w W0 S v1 v2 v3 v5 n1 n2 n3 n5 W) (hg : W0.heap[g]? = some o) (hn : ¬ S g) : W.heap[g]? = some o := blk_kept hg h.kept hn
theorem copies_reads {α : Type} {d : Kd α} {e : Nat} {W : World} {base : Nat} {ok : Nat → Prop} {A : Option Addr} {c : Nat} {xs : List α} (h : d.R e W base ok (.slice A xs.length c) xs) : d.C W A xs.length xs ∧ xs.length ≤ c := by
 obtain ⟨A', c', he, hl, hC⟩ := Kd.R_reads h
 injection he with h1 _ h2
 subst h1
 subst h2
 exact ⟨hC, hl⟩
theorem copies_kept {α : Type} {d : Kd α} {e : Nat} {W0 W : World} {base : Nat} {ok S : Nat → Prop} {v : Value} {xs : List α} (h : d.R e W0 base ok v xs) (hk : Kept W0 W S) (hs : ∀ k, base ≤ k → ¬ S k) : d.R e W base ok v xs :=
 Kd.R_mono (Kd.R_step (Kd.R_bound h) (fun k ho hl => hk.2 k hl (hs k ho.2.1))) (fun _ h => h.1)
theorem copies_arg {α : Type} {d : Kd α} (hd : Kd.Heap d) {w W0 W : World} {S : Nat → Prop} {A : Option Addr} {n : Nat} {xs : List α} (h : d.C w A n xs) (hb : Below w.heap.size w W0) (hk : Kept W0 W S) (hs : ∀ k, S k → w.heap.size ≤ k) : d.C W A n xs :=
 hd.C (fun k hl => (hk.2 k (Nat.lt_of_lt_of_le hl hb.size) (fun h => absurd (hs k h) (by omega))).trans (hb.block k hl)) h
set_option maxHeartbeats 16000000 in
set_option maxRecDepth 100000 in
theorem styluslaw25_StateCopies.calls (k : Nat) (a0_0 : ByteArray) (A0_1 : Option Addr) (c0_1 : Nat) (l0_1 : List S34) (A0_2 : Option Addr) (c0_2 : Nat) (l0_2 : List S38) (A0_3 : Option Addr) (c0_3 : Nat) (l0_3 : List S38) (a0_4 : Bool) (A0_5 : Option Addr) (c0_5 : Nat) (l0_5 : List S36) (r : Bool) (w : World) (hr0_1 : Kd.C k34 w A0_1 l0_1.length l0_1) (hc0_1 : l0_1.length ≤ c0_1) (hr0_2 : Kd.C k38 w A0_2 l0_2.length l0_2) (hc0_2 : l0_2.length ≤ c0_2) (hr0_3 : Kd.C k38 w A0_3 l0_3.length l0_3) (hc0_3 : l0_3.length ≤ c0_3) (hr0_5 : Kd.C k36 w A0_5 l0_5.length l0_5) (hc0_5 : l0_5.length ≤ c0_5) (h : styluslaw25_StateCopies.f k a0_0 l0_1 l0_2 l0_3 a0_4 l0_5 = some r) :
  Calls Try.prog 4 #[.agg #[.string a0_0, .slice A0_1 l0_1.length c0_1, .slice A0_2 l0_2.length c0_2, .slice A0_3 l0_3.length c0_3, .bool a0_4, .slice A0_5 l0_5.length c0_5]] w fun e w' => e = .returned (.bool r) ∧ Below w.heap.size w w' := by
 have huS := Try.underlying26
 have huM := Try.underlying34
 have huE := Try.underlying36
 have huT := Try.underlying38
 unfold styluslaw25_StateCopies.f at h
 obtain ⟨b, A1, h⟩ := Option.bind_eq_some_iff.mp h
 have HA := Aside0.mk A1
 clear A1
 have HC1 := Aside0.mk hr0_1
 have Hc1 := Aside0.mk hc0_1
 clear hr0_1 hc0_1
 have HC2 := Aside0.mk hr0_2
 have Hc2 := Aside0.mk hc0_2
 clear hr0_2 hc0_2
 have HC3 := Aside0.mk hr0_3
 have Hc3 := Aside0.mk hc0_3
 clear hr0_3 hc0_3
 have HC5 := Aside0.mk hr0_5
 have Hc5 := Aside0.mk hc0_5
 clear hr0_5 hc0_5
 cases b with
 | false =>
  rw [if_neg Bool.false_ne_true] at h
  have HL := Aside0.mk h
  clear h
  go_enter Try.func4, Try.ntmps4
  go_wp2_with (first
   | (go_at_call 6; (with_reducible refine (stylusref25_Few.calls k a0_0 A0_1 c0_1 l0_1 A0_2 c0_2 l0_2 A0_3 c0_3 l0_3 a0_4 A0_5 c0_5 l0_5 false _ (Kd.C_alloc HC1.out _) Hc1.out (Kd.C_alloc HC2.out _) Hc2.out (Kd.C_alloc HC3.out _) Hc3.out (Kd.C_alloc HC5.out _) Hc5.out HA.out).mono ?_); rintro e w2 ⟨rfl, hb⟩; have KB := Aside0.mk (below_step (below_alloc (Below.refl _ _) _) hb); clear hb)
   | (go_at_call 7; (with_reducible refine (styluslaw25_lives.calls k r _ HL.out).mono ?_); rintro e w3 ⟨rfl, hb⟩; have KB3 := Aside0.mk (below_step KB.out hb); clear hb))
  go_ret
  exact ⟨rfl, KB3.out⟩
 | true =>
  rw [if_pos rfl] at h
  by_cases hok : copies_ok l0_1 l0_2 l0_3 l0_5
  ·rw [if_pos hok] at h
   obtain ⟨s, A2, h⟩ := Option.bind_eq_some_iff.mp h
   cases s with
   | false => exact absurd h (by simp)
   | true =>
    rw [if_pos rfl] at h
    have HSA := Aside0.mk A2
    have HL := Aside0.mk h
    have HK := Aside0.mk hok
    clear A2 h hok
    go_enter Try.func4, Try.ntmps4
    go_upto_region 3 with (go_at_call 6; (with_reducible refine (stylusref25_Few.calls k a0_0 A0_1 c0_1 l0_1 A0_2 c0_2 l0_2 A0_3 c0_3 l0_3 a0_4 A0_5 c0_5 l0_5 true _ (Kd.C_alloc HC1.out _) Hc1.out (Kd.C_alloc HC2.out _) Hc2.out (Kd.C_alloc HC3.out _) Hc3.out (Kd.C_alloc HC5.out _) Hc5.out HA.out).mono ?_); rintro e wa ⟨rfl, hb⟩; have K0 := Aside0.mk (blk_below (heap_alloc_new w (.cells #[.string a0_0, .slice A0_1 l0_1.length c0_1, .slice A0_2 l0_2.length c0_2, .slice A0_3 l0_3.length c0_3, .bool a0_4, .slice A0_5 l0_5.length c0_5] 26)) hb); have K0w := K0; have KB := Aside0.mk (below_step (below_alloc (Below.refl _ _) _) hb); clear hb)
    have z0 := (blk_cell K0.out 0).trans rfl
    have z1 := (blk_cell K0.out 1).trans rfl
    have z2 := (blk_cell K0.out 2).trans rfl
    have z3 := (blk_cell K0.out 3).trans rfl
    have z4 := (blk_cell K0.out 4).trans rfl
    have z5 := (blk_cell K0.out 5).trans rfl
    go_upto_region 4 with (go_at_call 14; (with_reducible refine (state_Copy.own a0_0 a0_4 A0_1 c0_1 l0_1 A0_2 c0_2 l0_2 A0_3 c0_3 l0_3 A0_5 c0_5 l0_5 _ (Kd.C_below HC1.out KB.out) Hc1.out (Kd.C_below HC2.out KB.out) Hc2.out (Kd.C_below HC3.out KB.out) Hc3.out (Kd.C_below HC5.out KB.out) Hc5.out (copies_copy HK.out)).mono ?_); rintro e wb ⟨v1, v2, v3, v5, rfl, hR1, hR2, hR3, hR5, hb⟩; obtain ⟨B1, d1, rfl⟩ := Kd.R_slice hR1; obtain ⟨B2, d2, rfl⟩ := Kd.R_slice hR2; obtain ⟨B3, d3, rfl⟩ := Kd.R_slice hR3; obtain ⟨B5, d5, rfl⟩ := Kd.R_slice hR5; have HB := Aside0.mk hb; have HR1 := Aside0.mk hR1; have HR2 := Aside0.mk hR2; have HR3 := Aside0.mk hR3; have HR5 := Aside0.mk hR5; clear hb hR1 hR2 hR3 hR5)
    clear z0 z1 z2 z3 z4 z5
    have KC := Aside0.mk (heap_alloc_new wb (.cells #[.string a0_0, .slice B1 l0_1.length d1, .slice B2 l0_2.length d2, .slice B3 l0_3.length d3, .bool a0_4, .slice B5 l0_5.length d5] 26))
    have KBb := Aside0.mk (below_step KB.out HB.out)
    have K0 := Aside0.mk (blk_alloc (blk_below K0.out HB.out) (.cells #[.string a0_0, .slice B1 l0_1.length d1, .slice B2 l0_2.length d2, .slice B3 l0_3.length d3, .bool a0_4, .slice B5 l0_5.length d5] 26))
    have KBc := Aside0.mk (below_alloc KBb.out (.cells #[.string a0_0, .slice B1 l0_1.length d1, .slice B2 l0_2.length d2, .slice B3 l0_3.length d3, .bool a0_4, .slice B5 l0_5.length d5] 26))
    have hsz : wb.heap.size < (wb.alloc (.cells #[.string a0_0, .slice B1 l0_1.length d1, .slice B2 l0_2.length d2, .slice B3 l0_3.length d3, .bool a0_4, .slice B5 l0_5.length d5] 26)).heap.size := blk_lt KC.out
    have Hbc := Aside0.mk (below_alloc (Below.refl wb.heap.size wb) (.cells #[.string a0_0, .slice B1 l0_1.length d1, .slice B2 l0_2.length d2, .slice B3 l0_3.length d3, .bool a0_4, .slice B5 l0_5.length d5] 26))
    obtain ⟨Wc, hW⟩ : ∃ W : World, wb.alloc (.cells #[.string a0_0, .slice B1 l0_1.length d1, .slice B2 l0_2.length d2, .slice B3 l0_3.length d3, .bool a0_4, .slice B5 l0_5.length d5] 26) = W := ⟨_, rfl⟩
    rw [hW] at KC K0 KBc hsz Hbc ⊢
    have HSZ := Aside0.mk hsz
    clear hW hsz
    have z0 := (blk_cell K0.out 0).trans rfl
    have z1 := (blk_cell K0.out 1).trans rfl
    have z2 := (blk_cell K0.out 2).trans rfl
    have z3 := (blk_cell K0.out 3).trans rfl
    have z4 := (blk_cell K0.out 4).trans rfl
    have z5 := (blk_cell K0.out 5).trans rfl
    go_upto_region 5 with (go_at_call 14; (with_reducible refine (state_Copy.own a0_0 a0_4 A0_1 c0_1 l0_1 A0_2 c0_2 l0_2 A0_3 c0_3 l0_3 A0_5 c0_5 l0_5 _ (Kd.C_below HC1.out KBc.out) Hc1.out (Kd.C_below HC2.out KBc.out) Hc2.out (Kd.C_below HC3.out KBc.out) Hc3.out (Kd.C_below HC5.out KBc.out) Hc5.out (copies_copy HK.out)).mono ?_); rintro e wd ⟨v1, v2, v3, v5, rfl, hR1, hR2, hR3, hR5, hb⟩; obtain ⟨E1, f1, rfl⟩ := Kd.R_slice hR1; obtain ⟨E2, f2, rfl⟩ := Kd.R_slice hR2; obtain ⟨E3, f3, rfl⟩ := Kd.R_slice hR3; obtain ⟨E5, f5, rfl⟩ := Kd.R_slice hR5; have HBd := Aside0.mk hb; have HD1 := Aside0.mk (Kd.R_alloc hR1 (.cells #[.string a0_0, .slice E1 l0_1.length f1, .slice E2 l0_2.length f2, .slice E3 l0_3.length f3, .bool a0_4, .slice E5 l0_5.length f5] 26)); have HD2 := Aside0.mk (Kd.R_alloc hR2 (.cells #[.string a0_0, .slice E1 l0_1.length f1, .slice E2 l0_2.length f2, .slice E3 l0_3.length f3, .bool a0_4, .slice E5 l0_5.length f5] 26)); have HD3 := Aside0.mk (Kd.R_alloc hR3 (.cells #[.string a0_0, .slice E1 l0_1.length f1, .slice E2 l0_2.length f2, .slice E3 l0_3.length f3, .bool a0_4, .slice E5 l0_5.length f5] 26)); have HD5 := Aside0.mk (Kd.R_alloc hR5 (.cells #[.string a0_0, .slice E1 l0_1.length f1, .slice E2 l0_2.length f2, .slice E3 l0_3.length f3, .bool a0_4, .slice E5 l0_5.length f5] 26)); clear hb hR1 hR2 hR3 hR5)
    clear z0 z1 z2 z3 z4 z5
    have KD := Aside0.mk (heap_alloc_new wd (.cells #[.string a0_0, .slice E1 l0_1.length f1, .slice E2 l0_2.length f2, .slice E3 l0_3.length f3, .bool a0_4, .slice E5 l0_5.length f5] 26))
    have K0 := Aside0.mk (blk_alloc (blk_below K0.out HBd.out) (.cells #[.string a0_0, .slice E1 l0_1.length f1, .slice E2 l0_2.length f2, .slice E3 l0_3.length f3, .bool a0_4, .slice E5 l0_5.length f5] 26))
    have KC := Aside0.mk (blk_alloc (blk_below KC.out HBd.out) (.cells #[.string a0_0, .slice E1 l0_1.length f1, .slice E2 l0_2.length f2, .slice E3 l0_3.length f3, .bool a0_4, .slice E5 l0_5.length f5] 26))
    have KBe := Aside0.mk (below_alloc (below_step KBc.out HBd.out) (.cells #[.string a0_0, .slice E1 l0_1.length f1, .slice E2 l0_2.length f2, .slice E3 l0_3.length f3, .bool a0_4, .slice E5 l0_5.length f5] 26))
    have Hbe := Aside0.mk (below_alloc (below_step Hbc.out HBd.out) (.cells #[.string a0_0, .slice E1 l0_1.length f1, .slice E2 l0_2.length f2, .slice E3 l0_3.length f3, .bool a0_4, .slice E5 l0_5.length f5] 26))
    have HSD := Aside0.mk (show Wc.heap.size ≤ wd.heap.size from HBd.out.size)
    obtain ⟨We, hW⟩ : ∃ W : World, wd.alloc (.cells #[.string a0_0, .slice E1 l0_1.length f1, .slice E2 l0_2.length f2, .slice E3 l0_3.length f3, .bool a0_4, .slice E5 l0_5.length f5] 26) = W := ⟨_, rfl⟩
    rw [hW] at KD K0 KC KBe Hbe HD1 HD2 HD3 HD5 ⊢
    clear hW
    have HRw1 := HR1
    have HR1 := Aside0.mk (Kd.R_below HRw1.out Hbe.out)
    have HRw2 := HR2
    have HR2 := Aside0.mk (Kd.R_below HRw2.out Hbe.out)
    have HRw3 := HR3
    have HR3 := Aside0.mk (Kd.R_below HRw3.out Hbe.out)
    have HRw5 := HR5
    have HR5 := Aside0.mk (Kd.R_below HRw5.out Hbe.out)
    have z0 := (blk_cell K0.out 0).trans rfl
    have z1 := (blk_cell K0.out 1).trans rfl
    have z2 := (blk_cell K0.out 2).trans rfl
    have z3 := (blk_cell K0.out 3).trans rfl
    have z4 := (blk_cell K0.out 4).trans rfl
    have z5 := (blk_cell K0.out 5).trans rfl
    have y0 := (blk_cell KC.out 0).trans rfl
    have y1 := (blk_cell KC.out 1).trans rfl
    have y2 := (blk_cell KC.out 2).trans rfl
    have y3 := (blk_cell KC.out 3).trans rfl
    have y4 := (blk_cell KC.out 4).trans rfl
    have y5 := (blk_cell KC.out 5).trans rfl
    have x0 := (blk_cell KD.out 0).trans rfl
    have x1 := (blk_cell KD.out 1).trans rfl
    have x2 := (blk_cell KD.out 2).trans rfl
    have x3 := (blk_cell KD.out 3).trans rfl
    have x4 := (blk_cell KD.out 4).trans rfl
    have x5 := (blk_cell KD.out 5).trans rfl
    go_wp2_with (first
     | (go_at_call 15; (with_reducible refine (stylusref25_Same.calls k a0_0 B1 d1 l0_1 B2 d2 l0_2 B3 d3 l0_3 a0_4 B5 d5 l0_5 a0_0 A0_1 c0_1 l0_1 A0_2 c0_2 l0_2 A0_3 c0_3 l0_3 a0_4 A0_5 c0_5 l0_5 true _ (copies_reads HR1.out).1 (copies_reads HR1.out).2 (copies_reads HR2.out).1 (copies_reads HR2.out).2 (copies_reads HR3.out).1 (copies_reads HR3.out).2 (copies_reads HR5.out).1 (copies_reads HR5.out).2 (Kd.C_below HC1.out KBe.out) Hc1.out (Kd.C_below HC2.out KBe.out) Hc2.out (Kd.C_below HC3.out KBe.out) Hc3.out (Kd.C_below HC5.out KBe.out) Hc5.out HSA.out).mono ?_); rintro e w6 ⟨rfl, hb⟩; clear z0 z1 z2 z3 z4 z5 y0 y1 y2 y3 y4 y5 x0 x1 x2 x3 x4 x5; have K0 := Aside0.mk (blk_below K0.out hb); have KC := Aside0.mk (blk_below KC.out hb); have KD := Aside0.mk (blk_below KD.out hb); have KBe := Aside0.mk (below_step KBe.out hb); have Hbe := Aside0.mk (below_step Hbe.out hb); have HR1 := Aside0.mk (Kd.R_below HR1.out hb); have HR2 := Aside0.mk (Kd.R_below HR2.out hb); have HR3 := Aside0.mk (Kd.R_below HR3.out hb); have HR5 := Aside0.mk (Kd.R_below HR5.out hb); have HD1 := Aside0.mk (Kd.R_below HD1.out hb); have HD2 := Aside0.mk (Kd.R_below HD2.out hb); have HD3 := Aside0.mk (Kd.R_below HD3.out hb); have HD5 := Aside0.mk (Kd.R_below HD5.out hb); clear hb; have z0 := (blk_cell K0.out 0).trans rfl; have z1 := (blk_cell K0.out 1).trans rfl; have z2 := (blk_cell K0.out 2).trans rfl; have z3 := (blk_cell K0.out 3).trans rfl; have z4 := (blk_cell K0.out 4).trans rfl; have z5 := (blk_cell K0.out 5).trans rfl; have y0 := (blk_cell KC.out 0).trans rfl; have y1 := (blk_cell KC.out 1).trans rfl; have y2 := (blk_cell KC.out 2).trans rfl; have y3 := (blk_cell KC.out 3).trans rfl; have y4 := (blk_cell KC.out 4).trans rfl; have y5 := (blk_cell KC.out 5).trans rfl; have x0 := (blk_cell KD.out 0).trans rfl; have x1 := (blk_cell KD.out 1).trans rfl; have x2 := (blk_cell KD.out 2).trans rfl; have x3 := (blk_cell KD.out 3).trans rfl; have x4 := (blk_cell KD.out 4).trans rfl; have x5 := (blk_cell KD.out 5).trans rfl)
     | (go_at_call 15; (with_reducible refine (stylusref25_Same.calls k a0_0 E1 f1 l0_1 E2 f2 l0_2 E3 f3 l0_3 a0_4 E5 f5 l0_5 a0_0 A0_1 c0_1 l0_1 A0_2 c0_2 l0_2 A0_3 c0_3 l0_3 a0_4 A0_5 c0_5 l0_5 true _ (copies_reads HD1.out).1 (copies_reads HD1.out).2 (copies_reads HD2.out).1 (copies_reads HD2.out).2 (copies_reads HD3.out).1 (copies_reads HD3.out).2 (copies_reads HD5.out).1 (copies_reads HD5.out).2 (Kd.C_below HC1.out KBe.out) Hc1.out (Kd.C_below HC2.out KBe.out) Hc2.out (Kd.C_below HC3.out KBe.out) Hc3.out (Kd.C_below HC5.out KBe.out) Hc5.out HSA.out).mono ?_); rintro e w6 ⟨rfl, hb⟩; clear z0 z1 z2 z3 z4 z5 y0 y1 y2 y3 y4 y5 x0 x1 x2 x3 x4 x5; have K0 := Aside0.mk (blk_below K0.out hb); have KC := Aside0.mk (blk_below KC.out hb); have KD := Aside0.mk (blk_below KD.out hb); have KBe := Aside0.mk (below_step KBe.out hb); have Hbe := Aside0.mk (below_step Hbe.out hb); have HR1 := Aside0.mk (Kd.R_below HR1.out hb); have HR2 := Aside0.mk (Kd.R_below HR2.out hb); have HR3 := Aside0.mk (Kd.R_below HR3.out hb); have HR5 := Aside0.mk (Kd.R_below HR5.out hb); have HD1 := Aside0.mk (Kd.R_below HD1.out hb); have HD2 := Aside0.mk (Kd.R_below HD2.out hb); have HD3 := Aside0.mk (Kd.R_below HD3.out hb); have HD5 := Aside0.mk (Kd.R_below HD5.out hb); clear hb; have z0 := (blk_cell K0.out 0).trans rfl; have z1 := (blk_cell K0.out 1).trans rfl; have z2 := (blk_cell K0.out 2).trans rfl; have z3 := (blk_cell K0.out 3).trans rfl; have z4 := (blk_cell K0.out 4).trans rfl; have z5 := (blk_cell K0.out 5).trans rfl; have y0 := (blk_cell KC.out 0).trans rfl; have y1 := (blk_cell KC.out 1).trans rfl; have y2 := (blk_cell KC.out 2).trans rfl; have y3 := (blk_cell KC.out 3).trans rfl; have y4 := (blk_cell KC.out 4).trans rfl; have y5 := (blk_cell KC.out 5).trans rfl; have x0 := (blk_cell KD.out 0).trans rfl; have x1 := (blk_cell KD.out 1).trans rfl; have x2 := (blk_cell KD.out 2).trans rfl; have x3 := (blk_cell KD.out 3).trans rfl; have x4 := (blk_cell KD.out 4).trans rfl; have x5 := (blk_cell KD.out 5).trans rfl))
    clear z0 z1 z2 z3 z4 z5 y0 y1 y2 y3 y4 y5 x0 x1 x2 x3 x4 x5
    have hn1 : (l0_1.length : Int) ≤ 1000000 := by have := HK.out.1; omega
    have hn2 : (l0_2.length : Int) ≤ 1000000 := by have := HK.out.2.1.1; omega
    have hn3 : (l0_3.length : Int) ≤ 1000000 := by have := HK.out.2.2.1.1; omega
    have hn5 : (l0_5.length : Int) ≤ 1000000 := by have := HK.out.2.2.2; omega
    have HJ0 : Aside0 (Copies w w6 (fun k => wa.heap.size ≤ k ∧ k < wb.heap.size) (.slice B1 l0_1.length d1) (.slice B2 l0_2.length d2) (.slice B3 l0_3.length d3) (.slice B5 l0_5.length d5) l0_1.length l0_2.length l0_3.length l0_5.length w6) := by
     have hbw : Below wb.heap.size wb w6 := Hbe.out
     refine ⟨⟨fun k hk => Nat.le_trans KB.out.size hk.1, KBe.out, Kept.refl _ _, free_below (free_R HRw1.out rfl) hbw, freeS_below (freeS_R HRw2.out rfl HK.out.2.1.2) hbw, freeS_below (freeS_R HRw3.out rfl HK.out.2.2.1.2) hbw, free_below (free_R HRw5.out rfl) hbw⟩⟩
    have Hnc : Aside0 (¬ (wa.heap.size ≤ wb.heap.size ∧ wb.heap.size < wb.heap.size)) := ⟨fun h => Nat.lt_irrefl _ h.2⟩
    go_loopw [5] (fun v W => ∃ i : Nat, v = .int .i64 i ∧ i ≤ l0_1.length ∧ Aside0 (Copies w w6 (fun k => wa.heap.size ≤ k ∧ k < wb.heap.size) (.slice B1 l0_1.length d1) (.slice B2 l0_2.length d2) (.slice B3 l0_3.length d3) (.slice B5 l0_5.length d5) l0_1.length l0_2.length l0_3.length l0_5.length W)) (fun v _ => l0_1.length - (intOf v).toNat)
    case atStart => exact ⟨0, rfl, Nat.zero_le _, HJ0⟩
    case round =>
     obtain ⟨i, rfl, hi, HJ⟩ := hrel
     have hy := (blk_cell (HJ.out.blk KC.out Hnc.out) 1).trans rfl
     by_cases q : i < l0_1.length
     ·have p0 : (0 : Int) ≤ (i : Int) := Int.natCast_nonneg _
      have q0 : (i : Int) < (l0_1.length : Int) := by omega
      rcases HJ.out.f1 with h0 | ⟨g, cap, cur, e, hs, hh, hn⟩
      ·omega
      ·cases e
       have hlt : i * 2 + 0 < cur.size := by omega
       have hc := (blk_cell hh (i * 2)).trans (Array.getElem?_eq_getElem hlt)
       have hf := blk_frozen hh (i * 2)
       have HH := Aside0.mk hh
       have HS := Aside0.mk hs
       clear hh hs hn
       go_wp2_with fail
       go_roundw
       case rel => exact ⟨i + 1, by go_num, by omega, ⟨HJ.out.write HS.out HH.out (by decide) _ _⟩⟩
       case measure => simp [intOf]; omega
     ·obtain rfl : i = l0_1.length := by omega
      have hyy := hy
      clear hi q
      have HJ5 := HJ
      clear HJ
      go_wp2_with fail
      clear hy hyy
      clear HJ0
      go_loopw [6] (fun v W => ∃ i : Nat, v = .int .i64 i ∧ i ≤ l0_5.length ∧ Aside0 (Copies w w6 (fun k => wa.heap.size ≤ k ∧ k < wb.heap.size) (.slice B1 l0_1.length d1) (.slice B2 l0_2.length d2) (.slice B3 l0_3.length d3) (.slice B5 l0_5.length d5) l0_1.length l0_2.length l0_3.length l0_5.length W)) (fun v _ => l0_5.length - (intOf v).toNat)
      case atStart => exact ⟨0, rfl, Nat.zero_le _, HJ5⟩
      case round =>
       obtain ⟨i, rfl, hi, HJ⟩ := hrel
       have hy := (blk_cell (HJ.out.blk KC.out Hnc.out) 5).trans rfl
       by_cases q : i < l0_5.length
       ·have p0 : (0 : Int) ≤ (i : Int) := Int.natCast_nonneg _
        have q0 : (i : Int) < (l0_5.length : Int) := by omega
        rcases HJ.out.f5 with h0 | ⟨g, cap, cur, e, hs, hh, hn⟩
        ·omega
        ·cases e
         have hlt : i * 3 + 1 < cur.size := by omega
         have hc := (blk_cell hh (i * 3 + 1)).trans (Array.getElem?_eq_getElem hlt)
         have hf := blk_frozen hh (i * 3 + 1)
         have HH := Aside0.mk hh
         have HS := Aside0.mk hs
         clear hh hs hn
         go_wp2_with fail
         go_roundw
         case rel => exact ⟨i + 1, by go_num, by omega, ⟨HJ.out.write HS.out HH.out (by decide) _ _⟩⟩
         case measure => simp [intOf]; omega
       ·obtain rfl : i = l0_5.length := by omega
        have hyy := hy
        clear hi q
        have HJ6 := HJ
        clear HJ
        go_wp2_with fail
        clear hy hyy HJ5
        go_loopw [7] (fun v W => ∃ i : Nat, v = .int .i64 i ∧ i ≤ l0_2.length ∧ Aside0 (Copies w w6 (fun k => wa.heap.size ≤ k ∧ k < wb.heap.size) (.slice B1 l0_1.length d1) (.slice B2 l0_2.length d2) (.slice B3 l0_3.length d3) (.slice B5 l0_5.length d5) l0_1.length l0_2.length l0_3.length l0_5.length W)) (fun v _ => l0_2.length - (intOf v).toNat)
        case atStart => exact ⟨0, rfl, Nat.zero_le _, HJ6⟩
        case round =>
         obtain ⟨i, rfl, hi, HJ⟩ := hrel
         have hy := (blk_cell (HJ.out.blk KC.out Hnc.out) 2).trans rfl
         by_cases q : i < l0_2.length
         ·have p0 : (0 : Int) ≤ (i : Int) := Int.natCast_nonneg _
          have q0 : (i : Int) < (l0_2.length : Int) := by omega
          rcases HJ.out.f2 with h0 | ⟨g, cap, cur, e, hs, hh, hn, he⟩
          ·omega
          ·cases e
           obtain ⟨A, m, c, hc, hm, hfr⟩ := he i q
           have hx := (blk_cell hh i).trans hc
           have hmm : (m : Int) ≤ 1000000 := by omega
           have HX := Aside0.mk hc
           have HH := Aside0.mk hh
           have HS := Aside0.mk hs
           have HF := Aside0.mk hfr
           have HI := Aside0.mk hi
           clear hc hh hs hfr hn he hi
           go_wp2_with fail
           obtain ⟨wo, hwo⟩ : ∃ W : World, W = wr := ⟨_, rfl⟩
           subst hwo
           clear hy hx
           go_loopw [8] (fun v W => ∃ j : Nat, v = .int .i64 j ∧ j ≤ m ∧ Aside0 (Copies w w6 (fun k => wa.heap.size ≤ k ∧ k < wb.heap.size) (.slice B1 l0_1.length d1) (.slice (some ⟨g, 0, none⟩) l0_2.length d2) (.slice B3 l0_3.length d3) (.slice B5 l0_5.length d5) l0_1.length l0_2.length l0_3.length l0_5.length W ∧ W.heap[g]? = some (.cells cur 38 (0, 0)) ∧ free W (fun k => wa.heap.size ≤ k ∧ k < wb.heap.size) (.slice A m c) 36 3 m)) (fun v _ => m - (intOf v).toNat)
           case atStart => exact ⟨0, rfl, Nat.zero_le _, ⟨HJ.out, HH.out, HF.out⟩⟩
           case round =>
            clear HJ HH HF
            obtain ⟨j, rfl, hj, HJ⟩ := hrel
            have HH := Aside0.mk HJ.out.2.1
            have HF := Aside0.mk HJ.out.2.2
            have HJQ := Aside0.mk HJ.out.1
            clear HJ
            have hy := (blk_cell (HJQ.out.blk KC.out Hnc.out) 2).trans rfl
            have hx := (blk_cell HH.out i).trans HX.out
            by_cases qj : j < m
            ·have pj : (0 : Int) ≤ (j : Int) := Int.natCast_nonneg _
             have qj0 : (j : Int) < (m : Int) := by omega
             rcases HF.out with h0 | ⟨g3, cap3, cur3, e3, hs3, hh3, hn3_⟩
             ·omega
             ·cases e3
              have hlt : j * 3 + 2 < cur3.size := by omega
              have hc := (blk_cell hh3 (j * 3 + 2)).trans (Array.getElem?_eq_getElem hlt)
              have hf := blk_frozen hh3 (j * 3 + 2)
              have HH3 := Aside0.mk hh3
              have HS3 := Aside0.mk hs3
              clear hh3 hs3 hn3_
              go_wp2_with fail
              go_roundw
              case rel => exact ⟨j + 1, by go_num, by omega, ⟨HJQ.out.write HS3.out HH3.out (by decide) _ _, blk_far HH.out (blk_ne HH.out HH3.out (by decide)) _, free_set HF.out _ _ _⟩⟩
              case measure => simp [intOf]; omega
            ·obtain rfl : j = m := by omega
             have hf := blk_frozen HH.out i
             clear hj qj
             go_wp2_with fail
             go_roundw
             case rel => exact ⟨i + 1, by go_num, by omega, ⟨HJQ.out.drop HS.out _⟩⟩
             case measure => simp [intOf]; omega
         ·obtain rfl : i = l0_2.length := by omega
          clear hi q
          have HJ7 := HJ
          clear HJ
          go_wp2_with fail
          clear hy HJ6
          go_loopw [9] (fun v W => ∃ i : Nat, v = .int .i64 i ∧ i ≤ l0_3.length ∧ Aside0 (Copies w w6 (fun k => wa.heap.size ≤ k ∧ k < wb.heap.size) (.slice B1 l0_1.length d1) (.slice B2 l0_2.length d2) (.slice B3 l0_3.length d3) (.slice B5 l0_5.length d5) l0_1.length l0_2.length l0_3.length l0_5.length W)) (fun v _ => l0_3.length - (intOf v).toNat)
          case atStart => exact ⟨0, rfl, Nat.zero_le _, HJ7⟩
          case round =>
           obtain ⟨i, rfl, hi, HJ⟩ := hrel
           have hy := (blk_cell (HJ.out.blk KC.out Hnc.out) 3).trans rfl
           by_cases q : i < l0_3.length
           ·have p0 : (0 : Int) ≤ (i : Int) := Int.natCast_nonneg _
            have q0 : (i : Int) < (l0_3.length : Int) := by omega
            rcases HJ.out.f3 with h0 | ⟨g, cap, cur, e, hs, hh, hn, he⟩
            ·omega
            ·cases e
             obtain ⟨A, m, c, hc, hm, hfr⟩ := he i q
             have hx := (blk_cell hh i).trans hc
             have hmm : (m : Int) ≤ 1000000 := by omega
             have HX := Aside0.mk hc
             have HH := Aside0.mk hh
             have HS := Aside0.mk hs
             have HF := Aside0.mk hfr
             have HI := Aside0.mk hi
             clear hc hh hs hfr hn he hi
             go_wp2_with fail
             obtain ⟨wo, hwo⟩ : ∃ W : World, W = wr := ⟨_, rfl⟩
             subst hwo
             clear hy hx
             go_loopw [10] (fun v W => ∃ j : Nat, v = .int .i64 j ∧ j ≤ m ∧ Aside0 (Copies w w6 (fun k => wa.heap.size ≤ k ∧ k < wb.heap.size) (.slice B1 l0_1.length d1) (.slice B2 l0_2.length d2) (.slice (some ⟨g, 0, none⟩) l0_3.length d3) (.slice B5 l0_5.length d5) l0_1.length l0_2.length l0_3.length l0_5.length W ∧ W.heap[g]? = some (.cells cur 38 (0, 0)) ∧ free W (fun k => wa.heap.size ≤ k ∧ k < wb.heap.size) (.slice A m c) 36 3 m)) (fun v _ => m - (intOf v).toNat)
             case atStart => exact ⟨0, rfl, Nat.zero_le _, ⟨HJ.out, HH.out, HF.out⟩⟩
             case round =>
              clear HJ HH HF
              obtain ⟨j, rfl, hj, HJ⟩ := hrel
              have HH := Aside0.mk HJ.out.2.1
              have HF := Aside0.mk HJ.out.2.2
              have HJQ := Aside0.mk HJ.out.1
              clear HJ
              have hy := (blk_cell (HJQ.out.blk KC.out Hnc.out) 3).trans rfl
              have hx := (blk_cell HH.out i).trans HX.out
              by_cases qj : j < m
              ·have pj : (0 : Int) ≤ (j : Int) := Int.natCast_nonneg _
               have qj0 : (j : Int) < (m : Int) := by omega
               rcases HF.out with h0 | ⟨g3, cap3, cur3, e3, hs3, hh3, hn3_⟩
               ·omega
               ·cases e3
                have hlt : j * 3 + 2 < cur3.size := by omega
                have hc := (blk_cell hh3 (j * 3 + 2)).trans (Array.getElem?_eq_getElem hlt)
                have hf := blk_frozen hh3 (j * 3 + 2)
                have HH3 := Aside0.mk hh3
                have HS3 := Aside0.mk hs3
                clear hh3 hs3 hn3_
                go_wp2_with fail
                go_roundw
                case rel => exact ⟨j + 1, by go_num, by omega, ⟨HJQ.out.write HS3.out HH3.out (by decide) _ _, blk_far HH.out (blk_ne HH.out HH3.out (by decide)) _, free_set HF.out _ _ _⟩⟩
                case measure => simp [intOf]; omega
              ·obtain rfl : j = m := by omega
               have hf := blk_frozen HH.out i
               clear hj qj
               go_wp2_with fail
               go_roundw
               case rel => exact ⟨i + 1, by go_num, by omega, ⟨HJQ.out.drop HS.out _⟩⟩
               case measure => simp [intOf]; omega
           ·obtain rfl : i = l0_3.length := by omega
            clear hi q
            have HJ9 := HJ
            clear HJ
            clear HJ7
            have K0 := Aside0.mk (HJ9.out.blk K0.out (fun h => absurd (Nat.le_trans (KB.out.size) h.1) (by have := blk_lt K0w.out; omega)))
            have KD := Aside0.mk (HJ9.out.blk KD.out (fun h => absurd h.2 (by have := HSZ.out; have := HSD.out; omega)))
            have hlow : ∀ k, Wc.heap.size ≤ k → ¬ (wa.heap.size ≤ k ∧ k < wb.heap.size) := fun k hk h => by have := HSZ.out; omega
            have HD1 := Aside0.mk (copies_kept HD1.out HJ9.out.kept hlow)
            have HG1 := Aside0.mk (copies_arg k34_heap HC1.out KBe.out HJ9.out.kept HJ9.out.low)
            have HD2 := Aside0.mk (copies_kept HD2.out HJ9.out.kept hlow)
            have HG2 := Aside0.mk (copies_arg k38_heap HC2.out KBe.out HJ9.out.kept HJ9.out.low)
            have HD3 := Aside0.mk (copies_kept HD3.out HJ9.out.kept hlow)
            have HG3 := Aside0.mk (copies_arg k38_heap HC3.out KBe.out HJ9.out.kept HJ9.out.low)
            have HD5 := Aside0.mk (copies_kept HD5.out HJ9.out.kept hlow)
            have HG5 := Aside0.mk (copies_arg k36_heap HC5.out KBe.out HJ9.out.kept HJ9.out.low)
            clear hlow
            have z0 := (blk_cell K0.out 0).trans rfl
            have z1 := (blk_cell K0.out 1).trans rfl
            have z2 := (blk_cell K0.out 2).trans rfl
            have z3 := (blk_cell K0.out 3).trans rfl
            have z4 := (blk_cell K0.out 4).trans rfl
            have z5 := (blk_cell K0.out 5).trans rfl
            have x0 := (blk_cell KD.out 0).trans rfl
            have x1 := (blk_cell KD.out 1).trans rfl
            have x2 := (blk_cell KD.out 2).trans rfl
            have x3 := (blk_cell KD.out 3).trans rfl
            have x4 := (blk_cell KD.out 4).trans rfl
            have x5 := (blk_cell KD.out 5).trans rfl
            go_wp2_with (first
             | (go_at_call 15; (with_reducible refine (stylusref25_Same.calls k a0_0 E1 f1 l0_1 E2 f2 l0_2 E3 f3 l0_3 a0_4 E5 f5 l0_5 a0_0 A0_1 c0_1 l0_1 A0_2 c0_2 l0_2 A0_3 c0_3 l0_3 a0_4 A0_5 c0_5 l0_5 true _ (copies_reads HD1.out).1 (copies_reads HD1.out).2 (copies_reads HD2.out).1 (copies_reads HD2.out).2 (copies_reads HD3.out).1 (copies_reads HD3.out).2 (copies_reads HD5.out).1 (copies_reads HD5.out).2 HG1.out Hc1.out HG2.out Hc2.out HG3.out Hc3.out HG5.out Hc5.out HSA.out).mono ?_); rintro e w8 ⟨rfl, hb⟩; have KB8 := Aside0.mk (below_step HJ9.out.below hb); clear hb)
             | (go_at_call 7; (with_reducible refine (styluslaw25_lives.calls k r _ HL.out).mono ?_); rintro e w9 ⟨rfl, hb⟩; have KB9 := Aside0.mk (below_step KB8.out hb); clear hb))
            
            go_ret
            exact ⟨rfl, KB9.out⟩
  ·rw [if_neg hok] at h
   cases h

/-- THE ONE PURE STATEMENT of styluslaw25_StateCopies. -/
def styluslaw25_StateCopies.Pure : Prop := ∀ (x0 : S26), B26 x0 → ∃ k, styluslaw25_StateCopies.f k x0.f0 x0.f1 x0.f2 x0.f3 x0.f4 x0.f5 = some true
/-! ### slices_Equal__api_Mark_api_Mark: function 48 -/
-- slices.Equal of two rows of flat structs
def same_Mark (x y : S34) : Bool := x.f0.toList == y.f0.toList && (x.f1 == y.f1)
def same_Marks (x y : List S34) : Bool := x.length == y.length && (x.zip y).all fun p => same_Mark p.1 p.2
theorem same_Mark_drop (x y : List S34) (i : Nat) (h : i < x.length) (h' : i < y.length) : ((x.drop i).zip (y.drop i)).all (fun p => same_Mark p.1 p.2) = (same_Mark (rd_T34 x (i : Int)) (rd_T34 y (i : Int)) && ((x.drop (i + 1)).zip (y.drop (i + 1))).all (fun p => same_Mark p.1 p.2)) := by
 rw [List.drop_eq_getElem_cons h, List.drop_eq_getElem_cons h', List.zip_cons_cons, List.all_cons]
 simp [rd_T34, List.getD_eq_getElem?_getD, List.getElem?_eq_getElem h, List.getElem?_eq_getElem h']
/-! ### slices_Equal__api_Edit_api_Edit: function 49 -/
-- slices.Equal of two rows of flat structs
def same_Edit (x y : S36) : Bool := x.f0 == y.f0 && (x.f1.toList == y.f1.toList && (x.f2.toList == y.f2.toList))
def same_Edits (x y : List S36) : Bool := x.length == y.length && (x.zip y).all fun p => same_Edit p.1 p.2
theorem same_Edit_drop (x y : List S36) (i : Nat) (h : i < x.length) (h' : i < y.length) : ((x.drop i).zip (y.drop i)).all (fun p => same_Edit p.1 p.2) = (same_Edit (rd_T36 x (i : Int)) (rd_T36 y (i : Int)) && ((x.drop (i + 1)).zip (y.drop (i + 1))).all (fun p => same_Edit p.1 p.2)) := by
 rw [List.drop_eq_getElem_cons h, List.drop_eq_getElem_cons h', List.zip_cons_cons, List.all_cons]
 simp [rd_T36, List.getD_eq_getElem?_getD, List.getElem?_eq_getElem h, List.getElem?_eq_getElem h']
/-! ### state_sameSteps: function 50 -/
-- NEEDS slices.Equal[[]stylus/api.Edit,stylus/api.Edit]
def same_Steps (x y : List S38) : Bool := x.length == y.length && (x.zip y).all fun p => same_Edits p.1.f0 p.2.f0
theorem same_Steps_drop (x y : List S38) (i : Nat) (h : i < x.length) (h' : i < y.length) : ((x.drop i).zip (y.drop i)).all (fun p => same_Edits p.1.f0 p.2.f0) = (same_Edits (rd_T38 x (i : Int)).f0 (rd_T38 y (i : Int)).f0 && ((x.drop (i + 1)).zip (y.drop (i + 1))).all (fun p => same_Edits p.1.f0 p.2.f0)) := by
 rw [List.drop_eq_getElem_cons h, List.drop_eq_getElem_cons h', List.zip_cons_cons, List.all_cons]
 simp [rd_T38, List.getD_eq_getElem?_getD, List.getElem?_eq_getElem h, List.getElem?_eq_getElem h']
theorem rd_Step_mem (x : List S38) (i : Nat) (h : i < x.length) : rd_T38 x (i : Int) ∈ x := by
 simp [rd_T38, List.getD_eq_getElem?_getD, List.getElem?_eq_getElem h]
end Go.Proofs.Ytfhafkfcedghkaa.P
