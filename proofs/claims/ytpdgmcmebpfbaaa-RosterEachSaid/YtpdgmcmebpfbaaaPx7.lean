import Derived.Test.YtpdgmcmebpfbaaaPx0
import Derived.Lib.RowBridge
import Derived.RangeFuncBox
import Derived.Sort.OwnSorted
import Derived.Test.YtpdgmcmebpfbaaaPx3
import Derived.Test.YtpdgmcmebpfbaaaPx5
namespace Go.Proofs.Ytpdgmcmebpfbaaa.P
open Go.RowKit Go.Proofs.YtpdgmcmebpfbaaaW.PrintWords Go.Proofs.YtpdgmcmebpfbaaaW.PrintLast Go.Proofs.YtpdgmcmebpfbaaaW.PrintMore
attribute [local go_sem] max2_int min2_int max_two min_two max_three min_three max_four min_four   -- for this text's walks alone
set_option linter.unusedVariables false
set_option linter.unusedSimpArgs false
/-! ### roster_pick: function 24 -/
attribute [local go_sem] Oper.semAt_some
open Go.Sort in
theorem row_sort {W : World} {base : Nat} {v : Value} (us : List (List UInt8)) (hn : us.length ≤ 3000000) (ho : W.ownsRow base 9 1 v us.length (us.map encStr)) :
  Calls Try.prog 39 #[v] W fun e w' => e = .returned (.tuple #[]) ∧ w'.ownsRow base 9 1 v us.length ((us.mergeSort fun x y => decide (x ≤ y)).map encStr) ∧ W.grownBy w' v.ownBlock := by
 rcases ho.2 with ⟨rfl, h0⟩ | ⟨g, cap, cur, rfl, hbase, hb, h1, h2, h3, h4⟩
 ·have e0 := List.eq_nil_of_length_eq_zero h0
  subst e0
  refine (Go.Proofs.AnyM.slices_Sort_string_none Try.sortS none 0 W).mono ?_
  rintro e w' ⟨rfl, rfl⟩
  exact ⟨rfl, by rw [List.mergeSort_nil]; exact ho, ⟨rfl, rfl, rfl, Nat.le_refl _, fun _ _ _ => rfl⟩⟩
 ·refine (Go.Proofs.AnyM.slices_Sort_string Try.sortS g 0 cap us W (holds_of_block hb (by simpa using h4)) (Array.getElem?_eq_some_iff.1 hb).1 (by omega)).mono ?_
  rintro e w' ⟨rfl, n, os, rfl⟩
  exact ⟨rfl, ownsRow_sorted (by simp) hbase hb h1 h2 h3, grownBy_sorted _⟩
open Go.Sort in
theorem row_compact {W : World} {base : Nat} {v : Value} (us : List (List UInt8)) (hn : us.length ≤ 3000000) (ho : W.ownsRow base 9 1 v us.length (us.map encStr)) :
  Calls Try.prog 40 #[v] W fun e w' => ∃ v', e = .returned v' ∧ w'.ownsRow base 9 1 v' (Lib.compact us).length ((Lib.compact us).map encStr) ∧ W.grownBy w' v.ownBlock ∧ v'.ownBlock = v.ownBlock := by
 rcases ho.2 with ⟨rfl, h0⟩ | ⟨g, cap, cur, rfl, hbase, hb, h1, h2, h3, h4⟩
 ·have e0 := List.eq_nil_of_length_eq_zero h0
  subst e0
  refine (Any.slices_Compact_string_empty Try.compactS none 0 W).mono ?_
  rintro e w' ⟨rfl, rfl⟩
  exact ⟨_, rfl, ho, ⟨rfl, rfl, rfl, Nat.le_refl _, fun _ _ _ => rfl⟩, rfl⟩
 ·refine (Any.slices_Compact_string Try.compactS g 0 cap us W (holds_of_block hb (by simpa using h4)) (by omega) h1).mono ?_
  rintro e w' ⟨rfl, q, rfl⟩
  have hle := Lib.compact_length_le us
  have hL : (Lib.compact us ++ List.replicate (us.length - (Lib.compact us).length) []).length = us.length := by simp; omega
  have hg := grownBy_sorted (w := W) (g := g) (n := q) (os := #[]) (Lib.compact us ++ List.replicate (us.length - (Lib.compact us).length) []).toArray
  have hh := heap_sorted (w := W) (g := g) (n := q) (os := #[]) (Lib.compact us ++ List.replicate (us.length - (Lib.compact us).length) []).toArray hb
  rw [grow_empty] at hg hh
  refine ⟨_, rfl, ⟨by simp, .inr ⟨g, cap, _, rfl, hbase, hh, by omega, h2, by simp [putCells, h3], ?_⟩⟩, hg, rfl⟩
  have ht := take_putCells cur (Lib.compact us ++ List.replicate (us.length - (Lib.compact us).length) []) (by omega)
  have h5 := congrArg (List.take ((Lib.compact us).length * 1)) ht
  rw [List.take_take, hL, Nat.mul_one, Nat.min_eq_left hle, List.map_append, List.take_left' (by simp)] at h5
  rw [Nat.mul_one]
  exact h5
/-- Sorted, each once. -/
def pickOf (l : List ByteArray) : List ByteArray := (Lib.compact ((l.map fun s => s.data.toList).mergeSort fun x y => decide (x ≤ y))).map fun u => ⟨u.toArray⟩
def str_cells (l : List ByteArray) : List Value := l.map Value.string
theorem str_enc (l : List ByteArray) : str_cells l = (l.map fun s => s.data.toList).map encStr := by
 unfold str_cells
 rw [List.map_map]
 exact List.map_congr_left fun s _ => by simp [encStr]
theorem str_enc2 (us : List (List UInt8)) : us.map encStr = str_cells (us.map fun u => ⟨u.toArray⟩) := by
 unfold str_cells
 rw [List.map_map]
 rfl
theorem str_reps (w : World) (base : Nat) (ok : Nat → Prop) (l : List ByteArray) : Reps (Kd.string.M w base ok) 1 l (str_cells l) := by
 have key : ∀ m : List ByteArray, Reps (Kd.string.M w base ok) 1 m.reverse (str_cells m.reverse) := by
  intro m
  induction m with
  | nil => exact Reps.none _ _
  | cons x m ih =>
   rw [List.reverse_cons]
   have e : str_cells (m.reverse ++ [x]) = str_cells m.reverse ++ [.string x] := by unfold str_cells; rw [List.map_append]; rfl
   rw [e]
   exact Reps.snoc ih rfl rfl
 have := key l.reverse
 rwa [List.reverse_reverse] at this
theorem str_R {W : World} {B base : Nat} {v : Value} {l : List ByteArray} (h : W.ownsRow B 9 1 v l.length (str_cells l)) (hb : base ≤ B) : Kd.R Kd.string 9 W base (fun _ => True) v l :=
 ⟨fun _ _ => trivial, str_cells l, own_weaken h hb, str_reps _ _ _ l⟩
theorem own_belowR {W W' : World} {B n size : Nat} {e : TypeId} {v : Value} {xs : List Value} (ho : W.ownsRow B e size v n xs) (hb : Below W.heap.size W W') : W'.ownsRow B e size v n xs := by
 refine ho.kept (row := none) ⟨hb.os, hb.tape, hb.output, hb.size, fun i hi _ => hb.block i hi⟩ ?_
 cases hk : v.ownBlock with
 | none => exact .inl rfl
 | some k => exact .inr (fun e => by cases e)
theorem str_cells_snoc (l : List ByteArray) (x : ByteArray) : str_cells (l ++ [x]) = str_cells l ++ [.string x] := by simp [str_cells]
def pick_outs (p : TT → Bool) (pre : List TT) : List ByteArray := (pre.filter p).map (·.1)
theorem pick_in (p : TT → Bool) (l : List TT) (t : TT) (h : p t = true) : pick_outs p (l ++ [t]) = pick_outs p l ++ [t.1] := by
 unfold pick_outs
 rw [List.filter_append, List.map_append, List.filter_cons, if_pos h]
 rfl
theorem pick_out (p : TT → Bool) (l : List TT) (t : TT) (h : p t = false) : pick_outs p (l ++ [t]) = pick_outs p l := by
 unfold pick_outs
 rw [List.filter_append, List.map_append, List.filter_cons, if_neg (by rw [h]; decide)]
 simp
theorem pick_le (p : TT → Bool) (l : List TT) : (pick_outs p l).length ≤ l.length := by
 unfold pick_outs
 rw [List.length_map]
 exact List.length_filter_le _ _
def pick_I (w : World) (B : Nat) (fv : Value) (p : TT → Bool) (pre : List TT) (W : World) : Prop :=
 (∃ v, W.heap[w.heap.size + 1]? = some (.cells #[v] 22 (0, 0)) ∧ W.ownsRow B 9 1 v (pick_outs p pre).length (str_cells (pick_outs p pre))) ∧ Below w.heap.size w W ∧ B ≤ W.heap.size ∧ W.heap[w.heap.size]? = some (.cells #[fv] 48 (0, 0))
theorem pick_own {w : World} {B : Nat} {fv : Value} {p : TT → Bool} (hB : w.heap.size + 1 < B) : OwnFrom B (pick_I w B fv p) := fun s W W' row hs hg hr => by
 obtain ⟨⟨v, hv, ho⟩, hb, hB2, hf⟩ := hs
 refine ⟨⟨v, blk_grown hv hg (tt_row hr hv), ho.kept hg ?_⟩, hb.grown hg hb.size (fun k e => by have := (hr k e).1; omega), Nat.le_trans hB2 hg.size, blk_grown hf hg (tt_row hr hf)⟩
 cases hk : v.ownBlock with
 | none => exact .inl rfl
 | some k =>
  refine .inr (fun e => ?_)
  obtain ⟨_, o, ho1, ho2⟩ := hr k e.symm
  obtain ⟨cs, hc⟩ := own_typed ho k hk
  rw [hc] at ho1
  cases ho1
  cases ho2
def oldT (a1 : Int) (t : TT) : Bool := oursT t && !(t.2.2.1 == a1)
def tempT (t : TT) : Bool := t.2.1 == 3
set_option maxHeartbeats 1000000 in
theorem pick_old (t : TT) (a1 : Int) (be : Nat) (w : World) (he : w.heap[be]? = some (.cells #[.int .i64 a1] 3 (0, 0))) :
  Calls Try.prog 25 #[TT.val t, .pointer (some ⟨be, 0, none⟩)] w fun e w' => e = .returned (.bool (oldT a1 t)) ∧ Below w.heap.size w w' := by
 obtain ⟨s, r1, r2, r3, r4⟩ := t
 have huT := Try.underlying41
 have HO := roster_ours.calls r1 r2 r3 r4 _ (w.alloc (.cells #[.int .i64 r1, .int .i64 r2, .int .i64 r3, .string r4] 41)) (oursT_is (s, r1, r2, r3, r4))
 have hn := heap_alloc_new w (.cells #[.int .i64 r1, .int .i64 r2, .int .i64 r3, .string r4] 41)
 have he2 := blk_alloc he (.cells #[.int .i64 r1, .int .i64 r2, .int .i64 r3, .string r4] 41)
 unfold oldT
 obtain ⟨b, hb⟩ : ∃ b, oursT (s, r1, r2, r3, r4) = b := ⟨_, rfl⟩
 rw [hb] at HO ⊢
 go_enter Try.func25, Try.ntmps25
 have q0 := (blk_cell hn 0).trans rfl
 have q1 := (blk_cell hn 1).trans rfl
 have q2 := (blk_cell hn 2).trans rfl
 have q3 := (blk_cell hn 3).trans rfl
 cases b
 ·go_wp2_with (go_at_call 26; refine HO.mono ?_; rintro e w3 ⟨rfl, hb3⟩; have p1 := (blk_cell (blk_below hn hb3) 1).trans rfl; have p4 := (blk_cell (blk_below he2 hb3) 0).trans rfl)
  go_ret
  exact ⟨rfl, below_step (below_alloc (Below.refl _ _) _) hb3⟩
 ·go_wp2_with (go_at_call 26; refine HO.mono ?_; rintro e w3 ⟨rfl, hb3⟩; have p1 := (blk_cell (blk_below hn hb3) 1).trans rfl; have p4 := (blk_cell (blk_below he2 hb3) 0).trans rfl)
  go_ret
  exact ⟨by simp [bne], below_step (below_alloc (Below.refl _ _) _) hb3⟩
set_option maxHeartbeats 1000000 in
theorem pick_temp (t : TT) (w : World) :
  Calls Try.prog 28 #[TT.val t] w fun e w' => e = .returned (.bool (tempT t)) ∧ Below w.heap.size w w' := by
 obtain ⟨s, r1, r2, r3, r4⟩ := t
 have huT := Try.underlying41
 have hn := heap_alloc_new w (.cells #[.int .i64 r1, .int .i64 r2, .int .i64 r3, .string r4] 41)
 go_enter Try.func28, Try.ntmps28
 have q0 := (blk_cell hn 0).trans rfl
 go_wp2
 go_ret
 exact ⟨rfl, below_alloc (Below.refl _ _) _⟩
set_option maxHeartbeats 8000000 in
set_option maxRecDepth 100000 in
theorem roster_pick.old (k : Nat) (A0 : Option Addr) (c0 : Nat) (l0 : List ByteArray) (a1 : Int) (be : Nat) (ts : List TT) (w : World) (hr0 : Kd.C Kd.string w A0 l0.length l0) (he : w.heap[be]? = some (.cells #[.int .i64 a1] 3 (0, 0))) (hts : titlesOf k l0 = some ts) (hlen : l0.length ≤ 1000000) (Bs : Nat) (hBs : Bs ≤ w.heap.size) :
  Calls Try.prog 24 #[.slice A0 l0.length c0, .func (.func 25) #[] #[.pointer (some ⟨be, 0, none⟩)]] w fun e w' => ∃ v0_ : Value, e = .returned v0_ ∧ Kd.R Kd.string 9 w' Bs (fun _ => True) v0_ (pickOf (pick_outs (oldT a1) ts)) ∧ Below w.heap.size w w' := by
 have huT := Try.underlying41
 have HT := Aside0.mk hts
 have HL := Aside0.mk hlen
 have HLN := Aside0.mk (titlesOf_length hts)
 have HC := Aside0.mk hr0
 clear hts hlen hr0
 refine (callsIn_wide (n := 3)).1 ?_
 refine callsIn_of_wp_marks Try.func24 rfl trivial ?_ rfl
 simp only [Try.ntmps24, List.size_toArray, List.length_cons, List.length_nil, Nat.reduceAdd, Nat.reduceSub, Array.replicate_succ, Array.replicate_zero, List.push_toArray, List.append_toArray, List.nil_append, List.cons_append]
 gi_wp2_with (refine ⟨trivial, ?_⟩; gi_at_call 20; refine ((callsIn_wide (n := 3 - 1)).2 (titles_mk A0 l0.length c0 _)).mono ?_; rintro e w' ⟨rfl, rfl⟩)
 have hW0 : ∀ W0, (((w.alloc (.cells #[.func (.func 25) #[] #[.pointer (some ⟨be, 0, none⟩)]] 48)).alloc (.cells #[.slice none 0 0] 22)).alloc (.cells #[.slice A0 l0.length c0] 22)) = W0 →
   W0.heap.size = w.heap.size + 3 ∧ Below w.heap.size w W0 ∧ W0.heap[w.heap.size]? = some (.cells #[.func (.func 25) #[] #[.pointer (some ⟨be, 0, none⟩)]] 48 (0, 0)) ∧ W0.heap[w.heap.size + 1]? = some (.cells #[.slice none 0 0] 22 (0, 0)) ∧ W0.heap[w.heap.size + 1 + 1]? = some (.cells #[.slice A0 l0.length c0] 22 (0, 0)) := by
  rintro W0 rfl
  have n0 := heap_alloc_new w (.cells #[.func (.func 25) #[] #[.pointer (some ⟨be, 0, none⟩)]] 48)
  have n1 := heap_alloc_new (w.alloc (.cells #[.func (.func 25) #[] #[.pointer (some ⟨be, 0, none⟩)]] 48)) (.cells #[.slice none 0 0] 22)
  have n2 := heap_alloc_new ((w.alloc (.cells #[.func (.func 25) #[] #[.pointer (some ⟨be, 0, none⟩)]] 48)).alloc (.cells #[.slice none 0 0] 22)) (.cells #[.slice A0 l0.length c0] 22)
  simp only [World.size_alloc] at n1 n2
  exact ⟨by simp, below_alloc (below_alloc (below_alloc (Below.refl _ _) _) _) _, blk_alloc (blk_alloc n0 _) _, blk_alloc n1 _, n2⟩
 try simp only [World.size_alloc]
 generalize (((w.alloc (.cells #[.func (.func 25) #[] #[.pointer (some ⟨be, 0, none⟩)]] 48)).alloc (.cells #[.slice none 0 0] 22)).alloc (.cells #[.slice A0 l0.length c0] 22)) = W0 at hW0 ⊢
 obtain ⟨hs, hbW, m0, m1, m2⟩ := hW0 W0 rfl
 clear hW0
 rename_i Q' K hK
 have h0 : pick_I w W0.heap.size (.func (.func 25) #[] #[.pointer (some ⟨be, 0, none⟩)]) (oldT a1) [] W0 := ⟨⟨_, m1, own_nil _ _ _ _⟩, hbW, Nat.le_refl _, m0⟩
 refine wpIn_rangeFunc_ownH rfl (by omega) (gf := 34) (lb := #[.pointer (some ⟨w.heap.size + 1 + 1, 0, none⟩)]) rfl trivial (enters_of Try.func34 (by kernel_rfl) rfl) (encs := tt_encs) (Kp := Below w.heap.size)
  (titles_stops k A0 c0 l0 ts HT.out HL.out w HC.out (w.heap.size + 1 + 1) W0 hbW m2) ?hKt ?hKb (Below.refl _ _) (fun _ => rfl) (pick_I w W0.heap.size (.func (.func 25) #[] #[.pointer (some ⟨be, 0, none⟩)]) (oldT a1)) (fun _ _ _ => False) (pick_own (by omega)) (fun _ _ _ _ _ h => h.elim) h0
  (fun x a' W => ∃ bx, w.heap.size + 1 < bx ∧ W.heap[bx]? = some (.cells #[.int .i64 x.2.1, .int .i64 x.2.2.1, .int .i64 x.2.2.2.1, .string x.2.2.2.2] 41 (0, 0)) ∧ a' = { tmps := #[.slice A0 l0.length c0, .func (.func 25) #[] #[.pointer (some ⟨be, 0, none⟩)], undef, .pointer (some ⟨w.heap.size, 0, none⟩), .slice none 0 0, .pointer (some ⟨w.heap.size + 1, 0, none⟩), .string x.1, .pointer (some ⟨bx, 0, none⟩), .slice A0 l0.length c0, .func (.func 34) #[] #[.pointer (some ⟨w.heap.size + 1 + 1, 0, none⟩)], .string x.1, .agg #[.int .i64 x.2.1, .int .i64 x.2.2.1, .int .i64 x.2.2.2.1, .string x.2.2.2.2], undef, undef, undef, undef, undef, undef, undef, undef, undef, undef, undef], defers := [] }) ?hAx ?assign ?body ?done (fun _ _ _ _ _ _ h => h.elim)
 case hKt =>
  intro X Y Z h1 h2
  exact h1.trans h2
 case hKb =>
  intro W l o o' hl ho hc _
  exact (Below.refl w.heap.size W).grown (grownBy_putObj' W l o') (Nat.le_of_lt (Nat.lt_of_le_of_lt (Nat.le_trans hbW.size hl) (Array.getElem?_eq_some_iff.1 ho).1)) (fun k e => by cases e; exact Nat.le_trans hbW.size hl)
 case hAx =>
  rintro x a' _ W W' row ⟨bx, h1, h2, h3⟩ hg hr
  exact ⟨bx, h1, blk_grown h2 hg (tt_row hr h2), h3⟩
 case assign =>
  rintro l pre x W K2 hi hK2
  simp only [tt_encs]
  gi_wp2
  obtain ⟨⟨v, hv, ho⟩, hb, hB, hf⟩ := hi
  exact hK2 _ _ ((KeepsOthers.alloc _ _).from _) ((Below.refl _ W).alloc hb.size _) ⟨⟨v, blk_alloc hv _, ho.alloc _⟩, below_alloc hb _, by simp; omega, blk_alloc hf _⟩ ⟨W.heap.size, blk_lt hv, heap_alloc_new _ _, rfl⟩
 case body =>
  rintro l pre x a' W hl ⟨rr, hrr⟩ ⟨⟨v, hv, ho⟩, hb, hB, hf⟩ ⟨bx, hbx, hx, rfl⟩ hlen
  have c0 := (blk_cell hx 0).trans rfl
  have c1 := (blk_cell hx 1).trans rfl
  have c2 := (blk_cell hx 2).trans rfl
  have c3 := (blk_cell hx 3).trans rfl
  have cf := (blk_cell hf 0).trans rfl
  have HPC := Aside0.mk (pick_old x a1 be W (blk_below he hb))
  have HV := Aside0.mk hv
  have HO := Aside0.mk ho
  have HB := Aside0.mk hb
  have HF := Aside0.mk hf
  have HBW := Aside0.mk hB
  have HLE := Aside0.mk (show (pick_outs (oldT a1) pre).length + 1 ≤ 1000000 by have := pick_le (oldT a1) pre; have := HL.out; omega)
  clear hx hv ho hb hB hf
  cases hp : (oldT a1) x with
  | false =>
   gi_wp2_with (refine ⟨trivial, ?_⟩; gi_at_call 25; refine (CallsIn.inRound l (callsIn_wide.2 HPC.out)).mono ?_; rintro e w4 ⟨rfl, hb4⟩; rw [hp]; have HB4 := Aside0.mk hb4; clear hb4)
   exact ⟨keeps_below HB4.out, HB4.out.mono HB.out.size, ⟨v, blk_below HV.out HB4.out, by rw [pick_out _ _ _ hp]; exact own_belowR HO.out HB4.out⟩, below_step HB.out HB4.out, Nat.le_trans HBW.out HB4.out.size, blk_below HF.out HB4.out⟩
  | true =>
   obtain ⟨i0, hi0, hz0, hz1, hz2⟩ := info_parts info9
   gi_wp2_with (first
    | (refine ⟨trivial, ?_⟩; gi_at_call 25; refine (CallsIn.inRound l (callsIn_wide.2 HPC.out)).mono ?_; rintro e w4 ⟨rfl, hb4⟩; rw [hp]; have HB4 := Aside0.mk hb4; have hv := blk_below HV.out hb4; have ho := own_belowR HO.out hb4; have HS4 := Aside0.mk hb4.size; have c8 := (blk_cell hv 0).trans rfl; have f8 := blk_frozen hv 0; have hnew := heap_alloc_new w4 (.cells #[.string x.1] 9); clear hb4)
    | (gi_at_builtin; refine wpListIn_append_own _ rfl _ _ 22 rfl W0.heap.size 9 i0 _ 1 16 Try.underlying22 hi0 hz0 hz1 hz2 rfl (by decide) _ _ _ rfl (ho.alloc _) ⟨_, 0, none⟩ 1 1 [.string x.1] rfl rfl ?c1 ?c2 ?c3 ?c4 ?c5 ?_; (case c1 => intro j u hj; (match j, hj with | 0, hj => exact (blk_cell hnew 0).trans hj)); (case c2 => intro u hu; simp at hu; subst hu; rfl); (case c3 => have := HLE.out; unfold maxLen; omega); (case c4 => have := HLE.out; omega); (case c5 => have := HBW.out; have := HS4.out; simp; omega); intro v' w1 hown' hgrow _; obtain ⟨g', cap', rfl⟩ := ownsRow_succ hown'; obtain ⟨hv1, hv2, hv3, hk2, hb2⟩ := Boxed.appended (B := w.heap.size + 1) hv (by decide) (own_weaken ho hbW.size) (Nat.le_trans HB.out.size HS4.out) (Nat.le_succ _) (own_weaken hown' hbW.size) hgrow; have hc1 := hv1.cell; have hf1 := hv1.frozen))
   have hgrow : (w4.alloc (.cells #[.string x.1] 9)).grownBy w1 v.ownBlock := hgrow
   have hsz := HB.out.size
   have hs4 := HS4.out
   have hbw := HBW.out
   refine ⟨(keeps_below HB4.out).trans (hk2.from _), (HB4.out.mono HB.out.size).trans hb2, ⟨_, hv2, ?_⟩, (below_step HB.out HB4.out).trans hb2, Nat.le_trans HBW.out (Nat.le_trans HS4.out hk2.size), ?_⟩
   ·rw [pick_in _ _ _ hp, str_cells_snoc, List.length_append]
    refine hown'.kept (grownBy_setCell' w1 (w.heap.size + 1) _) (.inr (fun e => ?_))
    have := own_base hown' _ e
    omega
   ·refine (Below.heap_setCell _ _ _ _ (by show w.heap.size ≠ w.heap.size + 1; omega)).trans ((hgrow.block w.heap.size (by simp; omega) (fun e => ?_)).trans ((Below.heap_alloc _ _ _ (by omega)).trans (blk_below HF.out HB4.out)))
    have := own_base ho _ e.symm
    omega
 case done =>
  rintro D ys W hD hys ⟨⟨v, hv, ho⟩, hb, hB, hf⟩ hDk
  refine hK _ _ ?_
  subst hys
  have cs := (blk_cell hv 0).trans rfl
  have hle := pick_le (oldT a1) ys
  have hL := HL.out
  have hLN := HLN.out
  have hneb : some (w.heap.size + 1) ≠ v.ownBlock := fun e => by have := own_base ho _ e.symm; omega
  have hneD : some D ≠ v.ownBlock := fun e => by
   obtain ⟨cs, hc⟩ := own_typed ho _ e.symm
   rw [hc] at hDk
   cases hDk
  have hlD := blk_lt hDk
  have hS := row_sort (W := W) (base := W0.heap.size) (v := v) ((pick_outs (oldT a1) ys).map fun s => s.data.toList) (by rw [List.length_map]; omega) (by rw [List.length_map, ← str_enc]; exact ho)
  gi_wp2_with (first
   | (refine ⟨trivial, ?_⟩; gi_at_call 39; refine (callsIn_wide.2 hS).mono ?_; rintro e w5 ⟨rfl, ho5, hg5⟩; have hv5 := blk_grown hv hg5 hneb; have c5 := (blk_cell hv5 0).trans rfl; have hC := row_compact (W := w5) (base := W0.heap.size) (v := v) (((pick_outs (oldT a1) ys).map fun s => s.data.toList).mergeSort fun x y => decide (x ≤ y)) (by rw [List.length_mergeSort, List.length_map]; omega) (by rw [List.length_mergeSort]; exact ho5))
   | (refine ⟨trivial, ?_⟩; gi_at_call 40; refine (callsIn_wide.2 hC).mono ?_; rintro e w6 ⟨v', rfl, ho6, hg6, hob⟩))
  have hb5 := hb.grown hg5 hb.size (fun k e => Nat.le_trans hbW.size (own_base ho k e))
  have hb6 := hb5.grown hg6 hb5.size (fun k e => Nat.le_trans hbW.size (own_base ho k e))
  have hDk6 := (hg6.block D (Nat.lt_of_lt_of_le hlD hg5.size) hneD).trans ((hg5.block D hlD hneD).trans hDk)
  refine ⟨by simp, .inl ⟨_, _, rfl, run_takeDeferred hDk6, ⟨_, results_tmp rfl _ _ _, v', rfl, ?_, ?_⟩⟩⟩
  ·refine str_R (B := W0.heap.size) ?_ (Nat.le_trans hBs hbW.size)
   unfold pickOf
   rw [List.length_map, ← str_enc2]
   exact ho6.kept (grownBy_putObj' w6 D (.deferred none)) (.inr (fun e => hneD (by rw [← hob, e])))
  ·exact hb6.grown (grownBy_putObj' w6 D (.deferred none)) hb6.size (fun k e => by cases e; exact Nat.le_trans hbW.size hD)
set_option maxHeartbeats 8000000 in
set_option maxRecDepth 100000 in
theorem roster_pick.temp (k : Nat) (A0 : Option Addr) (c0 : Nat) (l0 : List ByteArray) (ts : List TT) (w : World) (hr0 : Kd.C Kd.string w A0 l0.length l0) (hts : titlesOf k l0 = some ts) (hlen : l0.length ≤ 1000000) (Bs : Nat) (hBs : Bs ≤ w.heap.size) :
  Calls Try.prog 24 #[.slice A0 l0.length c0, .func (.func 28) #[] #[]] w fun e w' => ∃ v0_ : Value, e = .returned v0_ ∧ Kd.R Kd.string 9 w' Bs (fun _ => True) v0_ (pickOf (pick_outs tempT ts)) ∧ Below w.heap.size w w' := by
 have huT := Try.underlying41
 have HT := Aside0.mk hts
 have HL := Aside0.mk hlen
 have HLN := Aside0.mk (titlesOf_length hts)
 have HC := Aside0.mk hr0
 clear hts hlen hr0
 refine (callsIn_wide (n := 3)).1 ?_
 refine callsIn_of_wp_marks Try.func24 rfl trivial ?_ rfl
 simp only [Try.ntmps24, List.size_toArray, List.length_cons, List.length_nil, Nat.reduceAdd, Nat.reduceSub, Array.replicate_succ, Array.replicate_zero, List.push_toArray, List.append_toArray, List.nil_append, List.cons_append]
 gi_wp2_with (refine ⟨trivial, ?_⟩; gi_at_call 20; refine ((callsIn_wide (n := 3 - 1)).2 (titles_mk A0 l0.length c0 _)).mono ?_; rintro e w' ⟨rfl, rfl⟩)
 have hW0 : ∀ W0, (((w.alloc (.cells #[.func (.func 28) #[] #[]] 48)).alloc (.cells #[.slice none 0 0] 22)).alloc (.cells #[.slice A0 l0.length c0] 22)) = W0 →
   W0.heap.size = w.heap.size + 3 ∧ Below w.heap.size w W0 ∧ W0.heap[w.heap.size]? = some (.cells #[.func (.func 28) #[] #[]] 48 (0, 0)) ∧ W0.heap[w.heap.size + 1]? = some (.cells #[.slice none 0 0] 22 (0, 0)) ∧ W0.heap[w.heap.size + 1 + 1]? = some (.cells #[.slice A0 l0.length c0] 22 (0, 0)) := by
  rintro W0 rfl
  have n0 := heap_alloc_new w (.cells #[.func (.func 28) #[] #[]] 48)
  have n1 := heap_alloc_new (w.alloc (.cells #[.func (.func 28) #[] #[]] 48)) (.cells #[.slice none 0 0] 22)
  have n2 := heap_alloc_new ((w.alloc (.cells #[.func (.func 28) #[] #[]] 48)).alloc (.cells #[.slice none 0 0] 22)) (.cells #[.slice A0 l0.length c0] 22)
  simp only [World.size_alloc] at n1 n2
  exact ⟨by simp, below_alloc (below_alloc (below_alloc (Below.refl _ _) _) _) _, blk_alloc (blk_alloc n0 _) _, blk_alloc n1 _, n2⟩
 try simp only [World.size_alloc]
 generalize (((w.alloc (.cells #[.func (.func 28) #[] #[]] 48)).alloc (.cells #[.slice none 0 0] 22)).alloc (.cells #[.slice A0 l0.length c0] 22)) = W0 at hW0 ⊢
 obtain ⟨hs, hbW, m0, m1, m2⟩ := hW0 W0 rfl
 clear hW0
 rename_i Q' K hK
 have h0 : pick_I w W0.heap.size (.func (.func 28) #[] #[]) tempT [] W0 := ⟨⟨_, m1, own_nil _ _ _ _⟩, hbW, Nat.le_refl _, m0⟩
 refine wpIn_rangeFunc_ownH rfl (by omega) (gf := 34) (lb := #[.pointer (some ⟨w.heap.size + 1 + 1, 0, none⟩)]) rfl trivial (enters_of Try.func34 (by kernel_rfl) rfl) (encs := tt_encs) (Kp := Below w.heap.size)
  (titles_stops k A0 c0 l0 ts HT.out HL.out w HC.out (w.heap.size + 1 + 1) W0 hbW m2) ?hKt ?hKb (Below.refl _ _) (fun _ => rfl) (pick_I w W0.heap.size (.func (.func 28) #[] #[]) tempT) (fun _ _ _ => False) (pick_own (by omega)) (fun _ _ _ _ _ h => h.elim) h0
  (fun x a' W => ∃ bx, w.heap.size + 1 < bx ∧ W.heap[bx]? = some (.cells #[.int .i64 x.2.1, .int .i64 x.2.2.1, .int .i64 x.2.2.2.1, .string x.2.2.2.2] 41 (0, 0)) ∧ a' = { tmps := #[.slice A0 l0.length c0, .func (.func 28) #[] #[], undef, .pointer (some ⟨w.heap.size, 0, none⟩), .slice none 0 0, .pointer (some ⟨w.heap.size + 1, 0, none⟩), .string x.1, .pointer (some ⟨bx, 0, none⟩), .slice A0 l0.length c0, .func (.func 34) #[] #[.pointer (some ⟨w.heap.size + 1 + 1, 0, none⟩)], .string x.1, .agg #[.int .i64 x.2.1, .int .i64 x.2.2.1, .int .i64 x.2.2.2.1, .string x.2.2.2.2], undef, undef, undef, undef, undef, undef, undef, undef, undef, undef, undef], defers := [] }) ?hAx ?assign ?body ?done (fun _ _ _ _ _ _ h => h.elim)
 case hKt =>
  intro X Y Z h1 h2
  exact h1.trans h2
 case hKb =>
  intro W l o o' hl ho hc _
  exact (Below.refl w.heap.size W).grown (grownBy_putObj' W l o') (Nat.le_of_lt (Nat.lt_of_le_of_lt (Nat.le_trans hbW.size hl) (Array.getElem?_eq_some_iff.1 ho).1)) (fun k e => by cases e; exact Nat.le_trans hbW.size hl)
 case hAx =>
  rintro x a' _ W W' row ⟨bx, h1, h2, h3⟩ hg hr
  exact ⟨bx, h1, blk_grown h2 hg (tt_row hr h2), h3⟩
 case assign =>
  rintro l pre x W K2 hi hK2
  simp only [tt_encs]
  gi_wp2
  obtain ⟨⟨v, hv, ho⟩, hb, hB, hf⟩ := hi
  exact hK2 _ _ ((KeepsOthers.alloc _ _).from _) ((Below.refl _ W).alloc hb.size _) ⟨⟨v, blk_alloc hv _, ho.alloc _⟩, below_alloc hb _, by simp; omega, blk_alloc hf _⟩ ⟨W.heap.size, blk_lt hv, heap_alloc_new _ _, rfl⟩
 case body =>
  rintro l pre x a' W hl ⟨rr, hrr⟩ ⟨⟨v, hv, ho⟩, hb, hB, hf⟩ ⟨bx, hbx, hx, rfl⟩ hlen
  have c0 := (blk_cell hx 0).trans rfl
  have c1 := (blk_cell hx 1).trans rfl
  have c2 := (blk_cell hx 2).trans rfl
  have c3 := (blk_cell hx 3).trans rfl
  have cf := (blk_cell hf 0).trans rfl
  have HPC := Aside0.mk (pick_temp x W)
  have HV := Aside0.mk hv
  have HO := Aside0.mk ho
  have HB := Aside0.mk hb
  have HF := Aside0.mk hf
  have HBW := Aside0.mk hB
  have HLE := Aside0.mk (show (pick_outs tempT pre).length + 1 ≤ 1000000 by have := pick_le tempT pre; have := HL.out; omega)
  clear hx hv ho hb hB hf
  cases hp : tempT x with
  | false =>
   gi_wp2_with (refine ⟨trivial, ?_⟩; gi_at_call 28; refine (CallsIn.inRound l (callsIn_wide.2 HPC.out)).mono ?_; rintro e w4 ⟨rfl, hb4⟩; rw [hp]; have HB4 := Aside0.mk hb4; clear hb4)
   exact ⟨keeps_below HB4.out, HB4.out.mono HB.out.size, ⟨v, blk_below HV.out HB4.out, by rw [pick_out _ _ _ hp]; exact own_belowR HO.out HB4.out⟩, below_step HB.out HB4.out, Nat.le_trans HBW.out HB4.out.size, blk_below HF.out HB4.out⟩
  | true =>
   obtain ⟨i0, hi0, hz0, hz1, hz2⟩ := info_parts info9
   gi_wp2_with (first
    | (refine ⟨trivial, ?_⟩; gi_at_call 28; refine (CallsIn.inRound l (callsIn_wide.2 HPC.out)).mono ?_; rintro e w4 ⟨rfl, hb4⟩; rw [hp]; have HB4 := Aside0.mk hb4; have hv := blk_below HV.out hb4; have ho := own_belowR HO.out hb4; have HS4 := Aside0.mk hb4.size; have c8 := (blk_cell hv 0).trans rfl; have f8 := blk_frozen hv 0; have hnew := heap_alloc_new w4 (.cells #[.string x.1] 9); clear hb4)
    | (gi_at_builtin; refine wpListIn_append_own _ rfl _ _ 22 rfl W0.heap.size 9 i0 _ 1 16 Try.underlying22 hi0 hz0 hz1 hz2 rfl (by decide) _ _ _ rfl (ho.alloc _) ⟨_, 0, none⟩ 1 1 [.string x.1] rfl rfl ?c1 ?c2 ?c3 ?c4 ?c5 ?_; (case c1 => intro j u hj; (match j, hj with | 0, hj => exact (blk_cell hnew 0).trans hj)); (case c2 => intro u hu; simp at hu; subst hu; rfl); (case c3 => have := HLE.out; unfold maxLen; omega); (case c4 => have := HLE.out; omega); (case c5 => have := HBW.out; have := HS4.out; simp; omega); intro v' w1 hown' hgrow _; obtain ⟨g', cap', rfl⟩ := ownsRow_succ hown'; obtain ⟨hv1, hv2, hv3, hk2, hb2⟩ := Boxed.appended (B := w.heap.size + 1) hv (by decide) (own_weaken ho hbW.size) (Nat.le_trans HB.out.size HS4.out) (Nat.le_succ _) (own_weaken hown' hbW.size) hgrow; have hc1 := hv1.cell; have hf1 := hv1.frozen))
   have hgrow : (w4.alloc (.cells #[.string x.1] 9)).grownBy w1 v.ownBlock := hgrow
   have hsz := HB.out.size
   have hs4 := HS4.out
   have hbw := HBW.out
   refine ⟨(keeps_below HB4.out).trans (hk2.from _), (HB4.out.mono HB.out.size).trans hb2, ⟨_, hv2, ?_⟩, (below_step HB.out HB4.out).trans hb2, Nat.le_trans HBW.out (Nat.le_trans HS4.out hk2.size), ?_⟩
   ·rw [pick_in _ _ _ hp, str_cells_snoc, List.length_append]
    refine hown'.kept (grownBy_setCell' w1 (w.heap.size + 1) _) (.inr (fun e => ?_))
    have := own_base hown' _ e
    omega
   ·refine (Below.heap_setCell _ _ _ _ (by show w.heap.size ≠ w.heap.size + 1; omega)).trans ((hgrow.block w.heap.size (by simp; omega) (fun e => ?_)).trans ((Below.heap_alloc _ _ _ (by omega)).trans (blk_below HF.out HB4.out)))
    have := own_base ho _ e.symm
    omega
 case done =>
  rintro D ys W hD hys ⟨⟨v, hv, ho⟩, hb, hB, hf⟩ hDk
  refine hK _ _ ?_
  subst hys
  have cs := (blk_cell hv 0).trans rfl
  have hle := pick_le tempT ys
  have hL := HL.out
  have hLN := HLN.out
  have hneb : some (w.heap.size + 1) ≠ v.ownBlock := fun e => by have := own_base ho _ e.symm; omega
  have hneD : some D ≠ v.ownBlock := fun e => by
   obtain ⟨cs, hc⟩ := own_typed ho _ e.symm
   rw [hc] at hDk
   cases hDk
  have hlD := blk_lt hDk
  have hS := row_sort (W := W) (base := W0.heap.size) (v := v) ((pick_outs tempT ys).map fun s => s.data.toList) (by rw [List.length_map]; omega) (by rw [List.length_map, ← str_enc]; exact ho)
  gi_wp2_with (first
   | (refine ⟨trivial, ?_⟩; gi_at_call 39; refine (callsIn_wide.2 hS).mono ?_; rintro e w5 ⟨rfl, ho5, hg5⟩; have hv5 := blk_grown hv hg5 hneb; have c5 := (blk_cell hv5 0).trans rfl; have hC := row_compact (W := w5) (base := W0.heap.size) (v := v) (((pick_outs tempT ys).map fun s => s.data.toList).mergeSort fun x y => decide (x ≤ y)) (by rw [List.length_mergeSort, List.length_map]; omega) (by rw [List.length_mergeSort]; exact ho5))
   | (refine ⟨trivial, ?_⟩; gi_at_call 40; refine (callsIn_wide.2 hC).mono ?_; rintro e w6 ⟨v', rfl, ho6, hg6, hob⟩))
  have hb5 := hb.grown hg5 hb.size (fun k e => Nat.le_trans hbW.size (own_base ho k e))
  have hb6 := hb5.grown hg6 hb5.size (fun k e => Nat.le_trans hbW.size (own_base ho k e))
  have hDk6 := (hg6.block D (Nat.lt_of_lt_of_le hlD hg5.size) hneD).trans ((hg5.block D hlD hneD).trans hDk)
  refine ⟨by simp, .inl ⟨_, _, rfl, run_takeDeferred hDk6, ⟨_, results_tmp rfl _ _ _, v', rfl, ?_, ?_⟩⟩⟩
  ·refine str_R (B := W0.heap.size) ?_ (Nat.le_trans hBs hbW.size)
   unfold pickOf
   rw [List.length_map, ← str_enc2]
   exact ho6.kept (grownBy_putObj' w6 D (.deferred none)) (.inr (fun e => hneD (by rw [← hob, e])))
  ·exact hb6.grown (grownBy_putObj' w6 D (.deferred none)) hb6.size (fun k e => by cases e; exact Nat.le_trans hbW.size hD)
/-! ### roster_Old: function 12 -/
def roster_Old.f (k : Nat) (l : List ByteArray) (a1 : Int) : Option (List ByteArray) := (titlesOf k l).bind fun ts => if l.length ≤ 1000000 then some (pickOf (pick_outs (oldT a1) ts)) else none
theorem roster_Old.leqL : ∀ x y : List UInt8, (Op.bytesLess x y || x == y) = !Op.bytesLess y x
 | [], [] => rfl
 | [], _ :: _ => rfl
 | _ :: _, [] => rfl
 | a :: x, b :: y => by
  have ih := roster_Old.leqL x y
  by_cases h1 : a < b
  ·have h2 : ¬ b < a := fun h => by rw [UInt8.lt_iff_toNat_lt] at h h1; omega
   have h3 : ¬ b = a := fun h => by subst h; exact h2 h1
   simp [Op.bytesLess, h1, h2, h3]
  ·by_cases h2 : b < a
   ·have h3 : a ≠ b := fun h => by subst h; exact h1 h2
    simp [Op.bytesLess, h1, h2, h3]
   ·obtain rfl : a = b := by
     rw [UInt8.lt_iff_toNat_lt] at h1 h2
     exact UInt8.toNat_inj.1 (by omega)
    simp [Op.bytesLess, h1, ← ih]
theorem roster_Old.leq_ (t : TypeId) (a b : ByteArray) (W : World) : (binOp .leq t (.string a) (.string b)).run Try.prog W = .ok (.bool (!Op.bytesLess b.toList a.toList)) W := by
 rw [← roster_Old.leqL]
 simp [binOp, Op.stringOp]
theorem roster_Old.gtr_ (t : TypeId) (a b : ByteArray) (W : World) : (binOp .gtr t (.string a) (.string b)).run Try.prog W = .ok (.bool (Op.bytesLess b.toList a.toList)) W := by
 rw [← Bool.not_not (Op.bytesLess b.toList a.toList), ← roster_Old.leqL]
 simp [binOp, Op.stringOp]
set_option maxHeartbeats 1000000 in
theorem roster_Old.calls (k : Nat) (A0 : Option Addr) (c0 : Nat) (l0 : List ByteArray) (a1 : Int) (r : List ByteArray) (w : World) (hr0 : Kd.C Kd.string w A0 l0.length l0) (hc0 : l0.length ≤ c0) (h : roster_Old.f k l0 a1 = some r) :
  Calls Try.prog 12 #[.slice A0 l0.length c0, .int .i64 a1] w fun e w' => ∃ v0_ : Value, e = .returned v0_ ∧ Kd.R Kd.string 9 w' w.heap.size (fun _ => True) v0_ r ∧ Below w.heap.size w w' := by
 unfold roster_Old.f at h
 obtain ⟨ts, hts, h⟩ := Option.bind_eq_some_iff.mp h
 split at h
 case isFalse => cases h
 rename_i hlen
 obtain rfl := Option.some.inj h
 have hmf : ∀ (fn : Fn) (first cap : Array Value) (w : World), (Instr.makeFunc fn first cap).run Try.prog w = .ok (.func fn first cap) w := fun _ _ _ _ => rfl
 have hb0 := below_alloc (Below.refl w.heap.size w) (.cells #[.int .i64 a1] 3)
 have hP := roster_pick.old k A0 c0 l0 a1 w.heap.size ts (w.alloc (.cells #[.int .i64 a1] 3)) (Kd.C_below hr0 hb0) (heap_alloc_new w _) hts hlen w.heap.size (by simp)
 have hle_ := roster_Old.leq_
 have hgt_ := roster_Old.gtr_
 go_enter Try.func12, Try.ntmps12
 go_wp2_with (go_at_call 24; refine hP.mono ?_; rintro e w1 ⟨v, rfl, hR, hb⟩)
 go_ret
 exact ⟨v, rfl, hR, below_step hb0 hb⟩
theorem stylusref31_add.leqL : ∀ x y : List UInt8, (Op.bytesLess x y || x == y) = !Op.bytesLess y x
 | [], [] => rfl
 | [], _ :: _ => rfl
 | _ :: _, [] => rfl
 | a :: x, b :: y => by
  have ih := stylusref31_add.leqL x y
  by_cases h1 : a < b
  ·have h2 : ¬ b < a := fun h => by rw [UInt8.lt_iff_toNat_lt] at h h1; omega
   have h3 : ¬ b = a := fun h => by subst h; exact h2 h1
   simp [Op.bytesLess, h1, h2, h3]
  ·by_cases h2 : b < a
   ·have h3 : a ≠ b := fun h => by subst h; exact h1 h2
    simp [Op.bytesLess, h1, h2, h3]
   ·obtain rfl : a = b := by
     rw [UInt8.lt_iff_toNat_lt] at h1 h2
     exact UInt8.toNat_inj.1 (by omega)
    simp [Op.bytesLess, h1, ← ih]
/-! ### roster_Temps: function 14 -/
def roster_Temps.f (k : Nat) (l : List ByteArray) : Option (List ByteArray) := (titlesOf k l).bind fun ts => if l.length ≤ 1000000 then some (pickOf (pick_outs tempT ts)) else none
set_option maxHeartbeats 1000000 in
theorem roster_Temps.calls (k : Nat) (A0 : Option Addr) (c0 : Nat) (l0 : List ByteArray) (r : List ByteArray) (w : World) (hr0 : Kd.C Kd.string w A0 l0.length l0) (hc0 : l0.length ≤ c0) (h : roster_Temps.f k l0 = some r) :
  Calls Try.prog 14 #[.slice A0 l0.length c0] w fun e w' => ∃ v0_ : Value, e = .returned v0_ ∧ Kd.R Kd.string 9 w' w.heap.size (fun _ => True) v0_ r ∧ Below w.heap.size w w' := by
 unfold roster_Temps.f at h
 obtain ⟨ts, hts, h⟩ := Option.bind_eq_some_iff.mp h
 split at h
 case isFalse => cases h
 rename_i hlen
 obtain rfl := Option.some.inj h
 have hP := roster_pick.temp k A0 c0 l0 ts w hr0 hts hlen w.heap.size (Nat.le_refl _)
 go_enter Try.func14, Try.ntmps14
 go_wp2_with (go_at_call 24; refine hP.mono ?_; rintro e w1 ⟨v, rfl, hR, hb⟩)
 go_ret
 exact ⟨v, rfl, hR, hb⟩
end Go.Proofs.Ytpdgmcmebpfbaaa.P
