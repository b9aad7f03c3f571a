-- Laid by a program of this session (wip/tools/fork_print.py over the kit's print) out of Lean's print of the translation. Lean checks it.
import Derived.Test.YtgcilgjkihmclaaDoorPx0
import Derived.Lib.Bytealg
import Derived.LoopIn
import Derived.LoopNIn
import Derived.OwnWalkIn
import Derived.RangeFuncBound
import Derived.RangeFuncCalls
import Derived.RangeFuncLeaves
import Derived.RangeFuncNested
import Derived.Shelf.Abstract
import Derived.Shelf.RegionOpen
import Derived.TacticsInMore
import Derived.Test.YtgcilgjkihmclaaDoorRangeSeq
import Derived.WalkKit
namespace Go.Proofs.YtgcilgjkihmclaaDoor.P
open Go.RowKit Go.Proofs.YtgcilgjkihmclaaDoorW.PrintWords Go.Proofs.YtgcilgjkihmclaaDoorW.PrintLast Go.Proofs.YtgcilgjkihmclaaDoorW.PrintMore
attribute [local go_sem] max2_int min2_int max_two min_two max_three min_three max_four min_four   -- for this text's walks alone
set_option linter.unusedVariables false
set_option linter.unusedSimpArgs false

/-! ### hunks_Cut: function 11 -/
-- IMPORT Derived.RangeFuncNested
-- IMPORT Derived.RangeFuncBound
-- IMPORT Derived.RangeFuncCalls
-- IMPORT Derived.RangeFuncLeaves
-- IMPORT Derived.Shelf.Abstract
-- IMPORT Derived.Shelf.RegionOpen
-- IMPORT Derived.WalkKit
-- IMPORT Derived.OwnWalkIn
-- IMPORT Derived.TacticsInMore
-- IMPORT Derived.LoopNIn
-- IMPORT Derived.LoopIn
-- IMPORT Derived.Lib.Bytealg
-- IMPORT Derived.Test.YtgcilgjkihmclaaDoorRangeSeq
-- a range over strings.SplitAfterSeq(s, "\n"): the iterator cuts its own text's cell between two rounds (RangeSeq)
attribute [local go_sem] Oper.semAt_some
def cut_encs (x : ByteArray) : Array Value := #[.string x]
def cut_at (s : ByteArray) : Int := Lib.indexByte s.data.toList 10
/-- What the iterator hands on. -/
def cut_go : Nat → ByteArray → Option (List ByteArray)
  | 0, _ => none
  | k + 1, s => if 0 ≤ cut_at s then ((cut_go k (s.extract (cut_at s + 1).toNat s.size)).map fun l => s.extract 0 (cut_at s + 1).toNat :: l) else some [s]
def cut_Kp (b1 b2 b3 : Nat) (W W' : World) : Prop := W'.heap[b1]? = W.heap[b1]? ∧ W'.heap[b2]? = W.heap[b2]? ∧ W'.heap[b3]? = W.heap[b3]?
theorem cut_below {w W : World} {g : Nat} {o : Obj} (h : w.heap[g]? = some o) (hb : Below w.heap.size w W) : W.heap[g]? = some o := (hb.block g (blk_lt h)).trans h
theorem cut_idx (l : List UInt8) (c : UInt8) : -1 ≤ Lib.indexByte l c ∧ Lib.indexByte l c < l.length := by
  induction l with
  | nil => simp [Lib.indexByte]
  | cons b l ih =>
    simp only [Lib.indexByte, List.length_cons]
    split
    · omega
    · split
      · omega
      · omega
set_option maxHeartbeats 1000000 in
set_option maxRecDepth 100000 in
theorem cut_byte (s : ByteArray) (c : Int) (w : World) :
    Calls Tryd.prog 34 #[.string s, .int .u8 c] w fun e w' => e = .returned (.int .i64 (Lib.indexByte s.data.toList c.toNat.toUInt8)) ∧ w' = w := by
  go_enter Tryd.func34, Tryd.ntmps34
  go_wp2
  rw [run_callFunc_extern Tryd.func38 (by kernel_rfl) (by kernel_rfl) (by kernel_rfl) (e := Extern.BytealgIndexByte.indexByte) (by kernel_rfl), Lib.run_indexByteString]
  simp only [Result.andThen]
  rw [Oper.upon_value]
  go_wp2
  go_ret
  exact ⟨rfl, rfl⟩
set_option maxHeartbeats 2000000 in
set_option maxRecDepth 100000 in
theorem cut_lite (s : ByteArray) (c : UInt8) (w : World) :
    Calls Tryd.prog 31 #[.string s, .string ⟨#[c]⟩] w fun e w' => e = .returned (.int .i64 (Lib.indexByte s.data.toList c)) ∧ w' = w := by
  go_enter Tryd.func31, Tryd.ntmps31
  go_wp2_with (go_at_call 34; refine (cut_byte _ _ _).mono ?_; rintro e w' ⟨rfl, rfl⟩)
  · have h : ([c] == s.toList) = true := by assumption
    go_ret
    refine ⟨?_, rfl⟩
    have e : s.data.toList = [c] := by rw [← ByteArray.toList_eq]; exact (beq_iff_eq.1 h).symm
    rw [e]
    simp [Lib.indexByte]
  · go_ret
    exact ⟨rfl, rfl⟩
theorem cut_index (s : ByteArray) (w : World) :
    Calls Tryd.prog 26 #[.string s, .string ⟨#[10]⟩] w fun e w' => e = .returned (.int .i64 (cut_at s)) ∧ w' = w := by
  go_enter Tryd.func26, Tryd.ntmps26
  go_wp2_with (go_at_call 31; refine (cut_lite _ _ _).mono ?_; rintro e w' ⟨rfl, rfl⟩)
  go_ret
  exact ⟨rfl, rfl⟩
theorem cut_mk (s : ByteArray) (w : World) :
    Calls Tryd.prog 18 #[.string s, .string ⟨#[10]⟩, .int .i64 1] w fun e w' => e = .returned (.func (.func 24) #[] #[.pointer (some ⟨w.heap.size + 1, 0, none⟩), .pointer (some ⟨w.heap.size, 0, none⟩), .pointer (some ⟨w.heap.size + 1 + 1, 0, none⟩)]) ∧
      w' = ((w.alloc (.cells #[.string s] 9)).alloc (.cells #[.string ⟨#[10]⟩] 9)).alloc (.cells #[.int .i64 1] 3) := by
  have hmf : ∀ (fn : Fn) (first cap : Array Value) (w : World), (Instr.makeFunc fn first cap).run Tryd.prog w = .ok (.func fn first cap) w := fun _ _ _ _ => rfl
  go_enter Tryd.func18, Tryd.ntmps18
  go_wp2
  go_ret
  exact ⟨rfl, rfl⟩
theorem cut_mk2 (s : ByteArray) (w : World) :
    Calls Tryd.prog 14 #[.string s, .string ⟨#[10]⟩] w fun e w' => e = .returned (.func (.func 24) #[] #[.pointer (some ⟨w.heap.size + 1, 0, none⟩), .pointer (some ⟨w.heap.size, 0, none⟩), .pointer (some ⟨w.heap.size + 1 + 1, 0, none⟩)]) ∧
      w' = ((w.alloc (.cells #[.string s] 9)).alloc (.cells #[.string ⟨#[10]⟩] 9)).alloc (.cells #[.int .i64 1] 3) := by
  go_enter Tryd.func14, Tryd.ntmps14
  go_wp2_with (go_at_call 18; refine (cut_mk _ _).mono ?_; rintro e w' ⟨rfl, rfl⟩)
  go_ret
  exact ⟨rfl, rfl⟩
set_option maxHeartbeats 8000000 in
set_option maxRecDepth 100000 in
theorem cut_gives (k : Nat) (s : ByteArray) (hs : s.size ≤ 140737488351232) (xs : List ByteArray) (w : World) (b1 b2 b3 : Nat) (h12 : b1 ≠ b2) (h32 : b3 ≠ b2)
    (hb1 : w.heap[b1]? = some (.cells #[.string ⟨#[10]⟩] 9 (0, 0))) (hb2 : w.heap[b2]? = some (.cells #[.string s] 9 (0, 0))) (hb3 : w.heap[b3]? = some (.cells #[.int .i64 1] 3 (0, 0)))
    (h : cut_go k s = some xs) :
    RangeSeq.Gives Fence.wide 2 Tryd.prog 24 #[.pointer (some ⟨b1, 0, none⟩), .pointer (some ⟨b2, 0, none⟩), .pointer (some ⟨b3, 0, none⟩)] cut_encs (cut_Kp b1 b2 b3) b2 xs w := by
  intro l J W hW hJ hY h0
  have e1 := cut_below hb1 hW
  have e2 := cut_below hb2 hW
  have e3 := cut_below hb3 hW
  refine callsIn_of_wp Tryd.func24 rfl trivial ?_ rfl
  simp only [Tryd.ntmps24, List.size_toArray, List.length_cons, List.length_nil, Nat.reduceAdd, Nat.reduceSub, Array.replicate_succ, Array.replicate_zero, List.push_toArray, List.append_toArray, List.nil_append, List.cons_append]
  have q0 := (blk_cell e1 0).trans rfl
  have q2 := (blk_cell e2 0).trans rfl
  have q3 := (blk_cell e3 0).trans rfl
  gi_wp2_with fail
  have E1_ := Aside0.mk e1
  have E2_ := Aside0.mk e2
  have E3_ := Aside0.mk e3
  have HS_ := Aside0.mk hs
  have H0_ := Aside0.mk h0
  clear q0 q2 q3 e1 e2 e3 hs h0 hb1 hb2 hb3 hW
  rename_i K hK
  refine wpIn_wide.2 ?_
  go_loopg [7] k (fun kq v7 wr => ∃ (t : ByteArray) (pre ys : List ByteArray), Aside0 (cut_go kq t = some ys) ∧ Aside0 (xs = pre ++ ys) ∧ Aside0 (J pre wr) ∧ Aside0 (wr.heap[b1]? = some (.cells #[.string ⟨#[10]⟩] 9 (0, 0))) ∧ Aside0 (wr.heap[b2]? = some (.cells #[.string t] 9 (0, 0))) ∧ Aside0 (wr.heap[b3]? = some (.cells #[.int .i64 1] 3 (0, 0))) ∧ Aside0 (t.size ≤ 140737488351232))
  case atStart =>
    exact ⟨s, [], xs, ⟨h⟩, ⟨rfl⟩, H0_, E1_, E2_, E3_, HS_⟩
  case round =>
    obtain ⟨t, pre, ys, HG, HX, HJ, E1, E2, E3, HS⟩ := hrel
    cases gk with
    | zero => exact absurd HG.out (by simp [cut_go])
    | succ k1 =>
      have H := HG.out
      clear HG E1_ E2_ E3_ HS_ H0_
      unfold cut_go at H
      obtain ⟨i, hi⟩ : ∃ i, cut_at t = i := ⟨_, rfl⟩
      have hr := cut_idx t.data.toList 10
      rw [show Lib.indexByte t.data.toList 10 = i from hi, data_length] at hr
      have HI := Aside0.mk hi
      rw [hi] at H
      clear hi
      have q1 := (blk_cell E1.out 0).trans rfl
      have q2 := (blk_cell E2.out 0).trans rfl
      have q3 := (blk_cell E3.out 0).trans rfl
      by_cases c : 0 ≤ i
      · rw [if_pos c] at H
        obtain ⟨ys', HG', rfl⟩ := Option.map_eq_some_iff.mp H
        have HG2 := Aside0.mk HG'
        have hw : wrap64 (i + 1) = i + 1 := by unfold wrap64; have := HS.out; omega
        have d0 : decide (i < 0) = false := decide_eq_false (by omega)
        have d2 : (i + 1 ≤ (t.size : Int)) = True := eq_true (by omega)
        have d3 : (0 ≤ i + 1) = True := eq_true (by omega)
        have HR := Aside0.mk (And.intro c hr)
        clear H HG' c hr
        go_upto_region 8 with (go_at_call 26; (with_reducible refine (cut_index t _).mono ?_); rintro e w3 ⟨rfl, rfl⟩; rw [HI.out])
        obtain ⟨fn, tmps, assign, body, hy, hR⟩ := hY pre (t.extract 0 (i + 1).toNat) w3 HJ.out (by rw [HX.out]; simp)
        simp only [cut_encs] at hy
        go_cut [42] (fun v42 wx => v42 = .bool false ∧ Aside0 (J (pre ++ [t.extract 0 (i + 1).toNat]) wx) ∧ Aside0 (wx.heap[b1]? = some (.cells #[.string ⟨#[10]⟩] 9 (0, 0))) ∧ Aside0 (wx.heap[b2]? = some (.cells #[.string t] 9 (0, 0))) ∧ Aside0 (wx.heap[b3]? = some (.cells #[.int .i64 1] 3 (0, 0))))
        case first =>
          refine (wpIn_wide (n := 2)).1 ?_
          gi_wp2_with fail
          refine hR.mono ?_
          rintro e W' ⟨rfl, hJ', hk⟩
          gi_wp2_with fail
          go_meet
          exact ⟨rfl, ⟨hJ'⟩, ⟨hk.1.trans E1.out⟩, ⟨hk.2.1.trans E2.out⟩, ⟨hk.2.2.trans E3.out⟩⟩
        obtain ⟨rfl, HJ2, M1, M2, M3⟩ := hcut
        clear hR hy q1 q2 q3
        have q1 := (blk_cell M1.out 0).trans rfl
        have q2 := (blk_cell M2.out 0).trans rfl
        have f2 := blk_frozen M2.out 0
        have n1 := Aside0.mk (blk_far M1.out (p := ⟨b2, 0, none⟩) h12 (.string (t.extract (i + 1).toNat t.size)))
        have n3 := Aside0.mk (blk_far M3.out (p := ⟨b2, 0, none⟩) h32 (.string (t.extract (i + 1).toNat t.size)))
        have n2 := Aside0.mk (blk_put (cs' := #[.string (t.extract (i + 1).toNat t.size)]) M2.out 0 (.string (t.extract (i + 1).toNat t.size)) rfl)
        have hJn := Aside0.mk (hJ _ _ _ HJ2.out (.inr (grownBy_setCell' _ b2 (.string (t.extract (i + 1).toNat t.size)))))
        have hsz : (t.extract (i + 1).toNat t.size).size ≤ 140737488351232 := by rw [ByteArray.size_extract]; have := HS.out; omega
        have HSZ := Aside0.mk hsz
        clear hsz
        go_wp2_with fail
        go_roundg k1
        case measure => omega
        case rel => exact ⟨t.extract (i + 1).toNat t.size, pre ++ [t.extract 0 (i + 1).toNat], ys', HG2, ⟨by rw [HX.out, List.append_assoc]; rfl⟩, hJn, n1, n2, n3, HSZ⟩
      · rw [if_neg c] at H
        obtain rfl := Option.some.inj H
        have d0 : decide (i < 0) = true := decide_eq_true (by omega)
        clear H c hr
        go_wp2_with (go_at_call 26; (with_reducible refine (cut_index t _).mono ?_); rintro e w3 ⟨rfl, rfl⟩; rw [HI.out])
        obtain ⟨fn, tmps, assign, body, hy, hR⟩ := hY pre t w3 HJ.out (by rw [HX.out]; simp)
        simp only [cut_encs] at hy
        gi_wp2_with fail
        refine hR.mono ?_
        rintro e W' ⟨rfl, hJ', hk⟩
        gi_wp2_with fail
        try simp only [Exit.noGoto]
        refine bodyPost_end (results_none rfl _ _ _) rfl ?_
        exact ⟨⟨_, rfl⟩, by rw [HX.out]; exact hJ'⟩
def cut_outs (l : List ByteArray) : List ByteArray := l.filter fun s => !(s.toList == ([] : List UInt8))
def cut_cells (l : List ByteArray) : List Value := l.map Value.string
theorem cut_reps (w : World) (base : Nat) (ok : Nat → Prop) (l : List ByteArray) : Reps (Kd.string.M w base ok) 1 l (cut_cells l) := by
  have key : ∀ m : List ByteArray, Reps (Kd.string.M w base ok) 1 m.reverse (cut_cells m.reverse) := by
    intro m
    induction m with
    | nil => exact Reps.none _ _
    | cons x m ih =>
      rw [List.reverse_cons]
      have e : cut_cells (m.reverse ++ [x]) = cut_cells m.reverse ++ [.string x] := by unfold cut_cells; rw [List.map_append]; rfl
      rw [e]
      exact Reps.snoc ih rfl rfl
  have := key l.reverse
  rwa [List.reverse_reverse] at this
theorem cut_R {W : World} {B base : Nat} {v : Value} {l : List ByteArray} (h : W.ownsRow B 9 1 v l.length (cut_cells l)) (hb : base ≤ B) : Kd.R Kd.string 9 W base (fun _ => True) v l :=
  ⟨fun _ _ => trivial, cut_cells l, own_weaken h hb, cut_reps _ _ _ l⟩
def cut_I (w : World) (B b8 : Nat) (pre : List ByteArray) (W : World) : Prop :=
  (∃ v, W.heap[b8]? = some (.cells #[v] 22 (0, 0)) ∧ W.ownsRow B 9 1 v (cut_outs pre).length (cut_cells (cut_outs pre))) ∧ Below w.heap.size w W ∧ B ≤ W.heap.size
theorem cut_I_grown {w W W' : World} {B b8 : Nat} {pre : List ByteArray} {row : Option Nat} (h : cut_I w B b8 pre W) (h8 : b8 < B) (hg : W.grownBy W' row)
    (h8r : some b8 ≠ row) (hw : ∀ k, row = some k → w.heap.size ≤ k) (hrow : ∀ k, row = some k → k < B ∨ ∃ o, W.heap[k]? = some o ∧ o.isCells = false) : cut_I w B b8 pre W' := by
  obtain ⟨⟨v, hv, ho⟩, hb, hB⟩ := h
  refine ⟨⟨v, blk_grown hv hg h8r, ho.kept hg ?_⟩, hb.grown hg hb.size hw, Nat.le_trans hB hg.size⟩
  cases hk : v.ownBlock with
  | none => exact .inl rfl
  | some k =>
    refine .inr (fun e => ?_)
    rcases hrow k e.symm with hlt | ⟨o, ho1, ho2⟩
    · have := own_base ho k hk
      omega
    · obtain ⟨cs, hc⟩ := own_typed ho k hk
      rw [hc] at ho1
      cases ho1
      cases ho2
theorem cut_outs_e (pre : List ByteArray) (x : ByteArray) (h : (x.toList == ([] : List UInt8)) = true) : cut_outs (pre ++ [x]) = cut_outs pre := by simp [cut_outs, beq_iff_eq.1 h]
theorem cut_outs_n (pre : List ByteArray) (x : ByteArray) (h : (x.toList == ([] : List UInt8)) = false) : cut_outs (pre ++ [x]) = cut_outs pre ++ [x] := by
  unfold cut_outs
  rw [List.filter_append]
  congr 1
  rw [List.filter_cons, h]
  rfl
theorem cut_cells_snoc (l : List ByteArray) (x : ByteArray) : cut_cells (l ++ [x]) = cut_cells l ++ [.string x] := by simp [cut_cells]
theorem cut_outs_le (l : List ByteArray) : (cut_outs l).length ≤ l.length := List.length_filter_le _ _
def hunks_Cut.f (k : Nat) (a0 : ByteArray) : Option (List ByteArray) := (cut_go k a0).bind fun xs => if xs.length ≤ 1000000 ∧ a0.size ≤ 140737488351232 then some (cut_outs xs) else none
theorem cut_go.mono : ∀ k s, LeO (cut_go k s) (cut_go (k + 1) s)
  | 0, _ => LeO.none _
  | k + 1, s => by
    have ih := cut_go.mono k
    unfold cut_go
    exact LeO.ite (LeO.map _ (ih _)) (LeO.refl _)
theorem hunks_Cut.mono : ∀ a0 k, LeO (hunks_Cut.f k a0) (hunks_Cut.f (k + 1) a0) := fun a0 k => LeO.bind (cut_go.mono k a0) fun _ => LeO.refl _
set_option maxHeartbeats 8000000 in
set_option maxRecDepth 100000 in
theorem hunks_Cut.calls (k : Nat) (a0 : ByteArray) (r : List ByteArray) (w : World) (h : hunks_Cut.f k a0 = some r) :
    Calls Tryd.prog 11 #[.string a0] w fun e w' => ∃ v0_ : Value, e = .returned (v0_) ∧ Kd.R Kd.string 9 w' w.heap.size (fun _ => True) v0_ r ∧ Below w.heap.size w w' := by
  unfold hunks_Cut.f at h
  replace h := Option.bind_eq_some_iff.mp h
  obtain ⟨xs, A1, h⟩ := h
  by_cases hl : xs.length ≤ 1000000 ∧ a0.size ≤ 140737488351232
  rotate_left
  · rw [if_neg hl] at h
    cases h
  rw [if_pos hl] at h
  obtain rfl := Option.some.inj h
  have HA := Aside0.mk A1
  have HL := Aside0.mk hl.1
  have HS0 := Aside0.mk hl.2
  clear A1 hl h
  refine (callsIn_wide (n := 3)).1 ?_
  refine callsIn_of_wp_marks Tryd.func11 rfl trivial ?_ rfl
  simp only [Tryd.ntmps11, List.size_toArray, List.length_cons, List.length_nil, Nat.reduceAdd, Nat.reduceSub, Array.replicate_succ, Array.replicate_zero, List.push_toArray, List.append_toArray, List.nil_append, List.cons_append]
  gi_wp2_with (refine ⟨trivial, ?_⟩; gi_at_call 14; refine ((callsIn_wide (n := 3 - 1)).2 (cut_mk2 a0 _)).mono ?_; rintro e w' ⟨rfl, rfl⟩)
  have hW0 : ∀ W0, (((((w.alloc (.cells #[.slice none 0 0] 22)).alloc (.cells #[.string a0] 9)).alloc (.cells #[.string ⟨#[10]⟩] 9)).alloc (.cells #[.int .i64 1] 3))) = W0 →
      W0.heap.size = w.heap.size + 4 ∧ Below w.heap.size w W0 ∧ W0.heap[w.heap.size]? = some (.cells #[.slice none 0 0] 22 (0, 0)) ∧
      W0.heap[w.heap.size + 1]? = some (.cells #[.string a0] 9 (0, 0)) ∧ W0.heap[w.heap.size + 2]? = some (.cells #[.string ⟨#[10]⟩] 9 (0, 0)) ∧ W0.heap[w.heap.size + 3]? = some (.cells #[.int .i64 1] 3 (0, 0)) := by
    rintro W0 rfl
    have n0 := heap_alloc_new w (.cells #[.slice none 0 0] 22)
    have n1 := heap_alloc_new (w.alloc (.cells #[.slice none 0 0] 22)) (.cells #[.string a0] 9)
    have n2 := heap_alloc_new ((w.alloc (.cells #[.slice none 0 0] 22)).alloc (.cells #[.string a0] 9)) (.cells #[.string ⟨#[10]⟩] 9)
    have n3 := heap_alloc_new (((w.alloc (.cells #[.slice none 0 0] 22)).alloc (.cells #[.string a0] 9)).alloc (.cells #[.string ⟨#[10]⟩] 9)) (.cells #[.int .i64 1] 3)
    simp only [World.size_alloc] at n1 n2 n3
    refine ⟨by simp, ?_, blk_alloc (blk_alloc (blk_alloc n0 _) _) _, blk_alloc (blk_alloc n1 _) _, blk_alloc n2 _, n3⟩
    exact ((((Below.refl _ w).alloc (Nat.le_refl _) _).alloc (by simp) _).alloc (by simp; omega) _).alloc (by simp; omega) _
  try simp only [World.size_alloc]
  generalize (((((w.alloc (.cells #[.slice none 0 0] 22)).alloc (.cells #[.string a0] 9)).alloc (.cells #[.string ⟨#[10]⟩] 9)).alloc (.cells #[.int .i64 1] 3))) = W0 at hW0 ⊢
  obtain ⟨hs, hbW, m8, m2, m1, m3⟩ := hW0 W0 rfl
  clear hW0
  rename_i Q' K hK
  have h0 : cut_I w W0.heap.size w.heap.size [] W0 := ⟨⟨_, m8, own_nil _ _ _ _⟩, hbW, Nat.le_refl _⟩
  refine RangeSeq.range_gives (C := w.heap.size + 1) (by omega) rfl (by omega) (gf := 24) (lb := #[.pointer (some ⟨w.heap.size + 1 + 1, 0, none⟩), .pointer (some ⟨w.heap.size + 1, 0, none⟩), .pointer (some ⟨w.heap.size + 1 + 1 + 1, 0, none⟩)]) rfl trivial
    (enters_of Tryd.func24 (by kernel_rfl) rfl) (encs := cut_encs) (Kp := cut_Kp (w.heap.size + 1 + 1) (w.heap.size + 1) (w.heap.size + 1 + 1 + 1)) (xs := xs)
    (cut_gives k a0 HS0.out xs W0 _ _ _ (by omega) (by omega) m1 m2 m3 HA.out) ?hKt ?hKb (fun _ => rfl) (cut_I w W0.heap.size w.heap.size) ?hI ?hIC h0
    (fun x a' W => a' = { tmps := #[.string a0, undef, .slice none 0 0, .pointer (some ⟨w.heap.size, 0, none⟩), .string x, .string a0,
        .func (.func 24) #[] #[.pointer (some ⟨w.heap.size + 1 + 1, 0, none⟩), .pointer (some ⟨w.heap.size + 1, 0, none⟩), .pointer (some ⟨w.heap.size + 1 + 1 + 1, 0, none⟩)],
        .string x, undef, undef, undef, undef, undef, undef, undef], defers := [] }) ?hAx ?assign ?body ?done
  case hKt =>
    rintro X Y Z ⟨h1, h2, h3⟩ ⟨k1, k2, k3⟩
    exact ⟨k1.trans h1, k2.trans h2, k3.trans h3⟩
  case hKb =>
    intro W k o o' hk _ _
    exact ⟨World.putObj_heap_other (by omega), World.putObj_heap_other (by omega), World.putObj_heap_other (by omega)⟩
  case hI =>
    intro pre W W' row hi hg hrow
    have hr : ∀ k, row = some k → W0.heap.size ≤ k := fun k e => (hrow k e).1
    refine cut_I_grown hi (by omega) hg ?_ (fun k e => by have := hr k e; omega) (fun k e => .inr (hrow k e).2)
    intro e
    have := hr _ e.symm
    omega
  case hIC =>
    rintro pre W W' hi (hg | hg)
    · exact cut_I_grown hi (by omega) hg (by simp) (fun k e => by cases e) (fun k e => by cases e)
    · exact cut_I_grown hi (by omega) hg (fun e => by injection e; omega) (fun k e => by injection e; omega) (fun k e => by injection e; exact .inl (by omega))
  case hAx =>
    intro x a' _ W W' row hax hg hrow
    exact hax
  case assign =>
    rintro l pre x W K2 hi hK2
    simp only [cut_encs]
    gi_wp2
    exact hK2 _ _ (KeepsFrom.refl _ _) ⟨rfl, rfl, rfl⟩ hi rfl
  case body =>
    rintro l pre x a' W hi hlen rfl
    obtain ⟨⟨v, hv, ho⟩, hb, hB⟩ := hi
    have c8 := (blk_cell hv 0).trans rfl
    have f8 := blk_frozen hv 0
    have HS := Aside0.mk hs
    have HBW := Aside0.mk hB
    have hnew := heap_alloc_new W (.cells #[.string x] 9)
    cases hx : (x.toList == ([] : List UInt8)) with
    | true =>
      clear hs hB
      gi_wp2_with fail
      refine ⟨KeepsFrom.refl _ _, ⟨rfl, rfl, rfl⟩, ⟨v, hv, ?_⟩, hb, HBW.out⟩
      rw [cut_outs_e pre x hx]
      exact ho
    | false =>
      obtain ⟨i0, hi0, hz0, hz1, hz2⟩ := info_parts info9
      have hlen2 : (cut_outs pre).length + 1 ≤ 1000000 := by
        have := cut_outs_le pre
        have := HL.out
        omega
      have HLE := Aside0.mk hlen2
      have HX := Aside0.mk hlen
      clear hlen2 hlen hs hB
      gi_wp2_with (gi_at_builtin; refine wpListIn_append_own _ rfl _ _ 22 rfl W0.heap.size 9 i0 _ 1 16 Tryd.underlying22 hi0 hz0 hz1 hz2 rfl (by decide) _ _ _ rfl (ho.alloc _) ⟨W.heap.size, 0, none⟩ 1 1 [.string x] rfl rfl ?c1 ?c2 ?c3 ?c4 ?c5 ?_; (case c1 => intro j u hj; (match j, hj with | 0, hj => exact (blk_cell hnew 0).trans hj)); (case c2 => intro u hu; simp at hu; subst hu; rfl); (case c3 => have := HLE.out; unfold maxLen; omega); (case c4 => have := HLE.out; omega); (case c5 => have := HBW.out; simp; omega); intro v' w1 hown' hgrow _; obtain ⟨g', cap', rfl⟩ := ownsRow_succ hown'; obtain ⟨hv1, hv2, _, hk2, hb2⟩ := Boxed.appended (B := w.heap.size) hv (by decide) (own_weaken ho hbW.size) hb.size (Nat.le_refl _) (own_weaken hown' hbW.size) hgrow; have hc1 := hv1.cell; have hf1 := hv1.frozen)
      have hgrow : (W.alloc (.cells #[.string x] 9)).grownBy w1 v.ownBlock := hgrow
      have hs' := HS.out
      have hB' := HBW.out
      have key : ∀ j, w.heap.size < j → j < W0.heap.size → (w1.setCell ⟨w.heap.size, 0, none⟩ (.slice (some ⟨g', 0, none⟩) ((cut_outs pre).length + 1) cap')).heap[j]? = W.heap[j]? := by
        intro j j1 j2
        refine (Below.heap_setCell _ _ _ j (by show j ≠ w.heap.size; omega)).trans ((hgrow.block j (by simp; omega) (fun e => ?_)).trans (Below.heap_alloc _ _ j (by omega)))
        have := own_base ho _ e.symm
        omega
      refine ⟨hk2.from _, ⟨key _ (by omega) (by omega), key _ (by omega) (by omega), key _ (by omega) (by omega)⟩, ⟨_, hv2, ?_⟩, hb.trans hb2, ?_⟩
      · rw [cut_outs_n pre x hx, cut_cells_snoc, List.length_append]
        refine hown'.kept (grownBy_setCell' w1 w.heap.size _) (.inr (fun e => ?_))
        have := own_base hown' _ e
        omega
      · have := hk2.size
        omega
  case done =>
    intro D W hD hi hDk
    obtain ⟨⟨v, hv, ho⟩, hb, hB⟩ := hi
    have c8 := (blk_cell hv 0).trans rfl
    refine hK _ _ ?_
    gi_wp2
    refine ⟨by simp, .inl ⟨_, _, rfl, run_takeDeferred hDk, ⟨_, results_tmp rfl _ _ _, v, rfl, ?_, ?_⟩⟩⟩
    · refine cut_R (ho.kept (grownBy_putObj' W D (.deferred none)) (.inr (fun e => ?_))) hbW.size
      obtain ⟨cs, hc⟩ := own_typed ho _ e
      rw [hc] at hDk
      cases hDk
    · exact hb.grown (grownBy_putObj' W D (.deferred none)) hb.size (fun k e => by injection e; omega)

/-! ### stylusref51_Cut: function 12 -/
def stylusref51_Cut.l0 : Nat → ByteArray → List ByteArray → Int → Int → Option (List ByteArray)
  | 0, _, _, _, _ => none
  | k + 1, x0, x3, x4, x5 => if x5 < (x0.size : Int) then (if 0 ≤ x5 then (if (bt x0 x5) = 10 then (if 0 ≤ x4 then (if x4 ≤ (wrap64 (x5 + 1)) then (if (wrap64 (x5 + 1)) ≤ (x0.size : Int) then (if x3.length < 8796093022208 then (stylusref51_Cut.l0 k x0 (x3 ++ [x0.extract (x4 : Int).toNat ((wrap64 (x5 + 1)) : Int).toNat]) (wrap64 (x5 + 1)) (wrap64 (x5 + 1))) else (none)) else (none)) else (none)) else (none)) else (stylusref51_Cut.l0 k x0 x3 x4 (wrap64 (x5 + 1)))) else (none)) else (if x4 < (x0.size : Int) then (if 0 ≤ x4 then (if x4 ≤ (x0.size : Int) then (if x3.length < 8796093022208 then (some (x3 ++ [x0.extract (x4 : Int).toNat x0.size])) else (none)) else (none)) else (none)) else (some x3))
def stylusref51_Cut.f (k : Nat) (a0 : ByteArray) : Option (List ByteArray) := stylusref51_Cut.l0 k a0 ([] : List ByteArray) 0 0
theorem stylusref51_Cut.mono_l : ∀ k, (∀ y0 y1 y2 y3, LeO (stylusref51_Cut.l0 k y0 y1 y2 y3) (stylusref51_Cut.l0 (k + 1) y0 y1 y2 y3))
  | 0 => fun _ _ _ _ r h => by simp [stylusref51_Cut.l0] at h
  | k + 1 => by
    have ih0 := stylusref51_Cut.mono_l k
    · intro y0 y1 y2 y3
      unfold stylusref51_Cut.l0
      repeat' first
      | (with_reducible exact ih0 _ _ _ _)
      | (with_reducible exact LeO.refl _)
      | (with_reducible exact LeO.none _)
      | (with_reducible refine LeO.ite ?_ ?_)
      | (with_reducible refine LeO.bind ?_ (fun _ => ?_))
      | exact ih0 _ _ _ _
      | exact LeO.none _
      | refine LeO.ite ?_ ?_
      | refine LeO.bind ?_ (fun _ => ?_)
theorem stylusref51_Cut.mono : ∀ a0 k, LeO (stylusref51_Cut.f k a0) (stylusref51_Cut.f (k + 1) a0) := by
  intro a0 k
  have ih0 := stylusref51_Cut.mono_l k
  unfold stylusref51_Cut.f
  repeat' first
      | (with_reducible exact ih0 _ _ _ _)
      | (with_reducible exact LeO.refl _)
      | (with_reducible exact LeO.none _)
      | (with_reducible refine LeO.ite ?_ ?_)
      | (with_reducible refine LeO.bind ?_ (fun _ => ?_))
      | exact ih0 _ _ _ _
      | exact LeO.none _
      | refine LeO.ite ?_ ?_
      | refine LeO.bind ?_ (fun _ => ?_)
set_option maxHeartbeats 8000000 in
set_option maxRecDepth 100000 in
theorem stylusref51_Cut.calls (k : Nat) (a0 : ByteArray) (r : List ByteArray) (w : World) (h : stylusref51_Cut.f k a0 = some r) :
    Calls Tryd.prog 12 #[.string a0] w fun e w' => ∃ v0_ : Value, e = .returned (v0_) ∧ Kd.R Kd.string 9 w' w.heap.size (fun _ => True) v0_ r ∧ Below w.heap.size w w' := by
  have HB := Aside0.mk (Below.refl w.heap.size w)
  have H : (stylusref51_Cut.l0 k a0 ([] : List ByteArray) 0 0) = some r := h
  clear h
  have H' := Aside0.mk H
  clear H
  go_enter Tryd.func12, Tryd.ntmps12
  go_wp2
  go_loopg [3, 4, 5] k (fun kq v3 v4 v5 w' => ∃ (x3_1 : List ByteArray) (x4_1 : Int) (x5_1 : Int), v4 = .int .i64 x4_1 ∧ v5 = .int .i64 x5_1 ∧ Aside0 (stylusref51_Cut.l0 kq a0 x3_1 x4_1 x5_1 = some r) ∧ Aside0 (kq ≤ k) ∧ Aside0 (Kd.R Kd.string 9 w' w.heap.size (fun _ => True) v3 x3_1) ∧ Aside0 (Below w.heap.size w w'))
  case atStart => exact ⟨(([] : List ByteArray)), (0), (0), (by first | rfl | (simp; done) | (simp [*]; done)), (by first | rfl | (simp; done) | (simp [*]; done)), H', ⟨Nat.le_refl _⟩, ⟨by first | exact Kd.R_nil _ _ _ _ _ | exact Kd.N_nil _ _ _ _ _ | exact Kd.V_nil _ _ _ _ _ | exact Kd.Q_nil _ _ _ _ _ | exact Kd.S_nil _ _ _ _ _⟩, ⟨by repeat (first | (with_reducible first | exact HB.out | apply below_alloc | apply pw_below_drewN | apply below_drew1) | exact HB.out)⟩⟩
  case round =>
    clear H'
    try clear c1
    obtain ⟨x3_1, x4_1, x5_1, rfl, rfl, HA, HK1, HO_3, HB⟩ := hrel
    cases gk with
    | zero => exact absurd HA.out (by simp [stylusref51_Cut.l0])
    | succ k1 =>
      have H := HA.out
      clear HA
      simp only [stylusref51_Cut.l0] at H
      by_cases c2 : x5_1 < (a0.size : Int)
      · rw [if_pos c2] at H
        have c2b0 : decide (x5_1 < (a0.size : Int)) = true := decide_eq_true c2
        clear c2
        by_cases c3 : 0 ≤ x5_1
        · rw [if_pos c3] at H
          have c3b0 : decide (0 ≤ x5_1) = true := decide_eq_true c3
          clear c3
          by_cases c5 : (bt a0 x5_1) = 10
          · rw [if_pos c5] at H
            have c5b0 : ((bt a0 x5_1) == 10) = true := beq_iff_eq.mpr c5
            have c5b1 : ((bt a0 x5_1) != 10) = false := bne_eq_false_iff_eq.mpr c5
            clear c5
            by_cases c6 : 0 ≤ x4_1
            · rw [if_pos c6] at H
              have c6b0 := eq_true c6
              have c6b1 : decide (0 ≤ x4_1) = true := decide_eq_true c6
              clear c6
              by_cases c7 : x4_1 ≤ (wrap64 (x5_1 + 1))
              · rw [if_pos c7] at H
                have c7b0 := eq_true c7
                have c7b1 : decide (x4_1 ≤ (wrap64 (x5_1 + 1))) = true := decide_eq_true c7
                by_cases c8 : (wrap64 (x5_1 + 1)) ≤ (a0.size : Int)
                · rw [if_pos c8] at H
                  have c8b0 := eq_true c8
                  have c8b1 : decide ((wrap64 (x5_1 + 1)) ≤ (a0.size : Int)) = true := decide_eq_true c8
                  by_cases c9 : x3_1.length < 8796093022208
                  · rw [if_pos c9] at H
                    have LMc9 := Aside0.mk c9
                    clear c9
                    obtain ⟨y137, hy137⟩ : ∃ y_ : List ByteArray, y_ = (x3_1 ++ [a0.extract (x4_1 : Int).toNat ((wrap64 (x5_1 + 1)) : Int).toNat]) := ⟨_, rfl⟩
                    replace H : (stylusref51_Cut.l0 k1 a0 y137 (wrap64 (x5_1 + 1)) (wrap64 (x5_1 + 1))) = some r := by first | (rw [hy137]; with_reducible exact H) | (have H2_ := (Option.bind_some _ _).symm.trans H; rw [hy137]; with_reducible exact H2_) | (have H2_ := (Option.bind_some _ _).symm.trans H; with_reducible exact H2_) | with_reducible exact H | (rw [hy137]; exact H) | exact H
                    have Ny137 := Aside0.mk hy137
                    clear hy137
                    have H' := Aside0.mk H
                    clear H
                    have p4 : 0 ≤ (x5_1 : Int) := of_decide_eq_true (by first | (with_reducible assumption) | assumption)
                    have q4 : x5_1 < (a0.size : Int) := of_decide_eq_true (by first | (with_reducible assumption) | assumption)
                    have hx4 := bt_at a0 x5_1
                    replace p4 := eq_true p4
                    replace q4 := eq_true q4
                    go_wp2_with (first | ((with_reducible refine gate_builtin (b := .append) (xs := #[.tmp 16, .tmp 22]) rfl ?_); at_builtin; refine Kd.R_append Kd.string (w0 := w) w.heap.size rfl (.tmp 16) (.tmp 22) 22 9 (.string ⟨#[]⟩) 16 rfl Tryd.underlying22 info9 rfl (by decide) (by omega) u3 x3_1 (a0.extract (x4_1 : Int).toNat ((wrap64 (x5_1 + 1)) : Int).toNat) [.string (a0.extract (x4_1 : Int).toNat ((wrap64 (x5_1 + 1)) : Int).toNat)] (fun _ => True) (fun _ => False) rfl rfl ?aP (fun _ hk => hk.elim) ?aF ?aO ?aB ?aS ?aL ?_; (case aP => exact rfl); (case aB => exact (by repeat (first | (with_reducible first | exact HB.out | apply below_alloc | apply pw_below_drewN | apply below_drew1) | exact HB.out))); (case aF => exact (fun _ _ => trivial)); (case aO => exact (by (with_reducible repeat (first | apply Kd.R_alloc | apply Kd.R_drewN | apply Kd.R_drew)); exact HO_3.out)); (case aS => exact (below_size (by repeat (first | (with_reducible first | exact HB.out | apply below_alloc | apply pw_below_drewN | apply below_drew1) | exact HB.out)))); (case aL => have := LMc9.out; omega); intro v138 w10 ho hb hg hat; rw [← Ny137.out] at ho; have n0_ := Aside0.mk (hb); have n1_ := Aside0.mk (ho); clear HB; clear HO_3; have HB := n0_; have HO139 := n1_; clear n0_ n1_; clear ho hb hg hat))
                    go_roundg k1
                    case measure => have := HK1.out; omega
                    case rel => exact ⟨(y137), (wrap64 (x5_1 + 1)), (wrap64 (x5_1 + 1)), (by first | rfl | (simp; done) | (simp [*]; done)), (by first | rfl | (simp; done) | (simp [*]; done)), H', ⟨by have := HK1.out; omega⟩, ⟨by (with_reducible repeat (first | apply Kd.R_alloc | apply Kd.R_drewN | apply Kd.R_drew)); exact HO139.out⟩, ⟨by repeat (first | (with_reducible first | exact HB.out | apply below_alloc | apply pw_below_drewN | apply below_drew1) | exact HB.out)⟩⟩
                  · rw [if_neg c9] at H
                    exact absurd H (by simp)
                · rw [if_neg c8] at H
                  exact absurd H (by simp)
              · rw [if_neg c7] at H
                exact absurd H (by simp)
            · rw [if_neg c6] at H
              exact absurd H (by simp)
          · rw [if_neg c5] at H
            have c5b0 : ((bt a0 x5_1) == 10) = false := beq_eq_false_iff_ne.mpr c5
            have c5b1 : ((bt a0 x5_1) != 10) = true := bne_iff_ne.mpr c5
            have H' := Aside0.mk H
            clear H
            have p4 : 0 ≤ (x5_1 : Int) := of_decide_eq_true (by first | (with_reducible assumption) | assumption)
            have q4 : x5_1 < (a0.size : Int) := of_decide_eq_true (by first | (with_reducible assumption) | assumption)
            have hx4 := bt_at a0 x5_1
            replace p4 := eq_true p4
            replace q4 := eq_true q4
            go_wp2
            go_roundg k1
            case measure => have := HK1.out; omega
            case rel => exact ⟨(x3_1), (x4_1), (wrap64 (x5_1 + 1)), (by first | rfl | (simp; done) | (simp [*]; done)), (by first | rfl | (simp; done) | (simp [*]; done)), H', ⟨by have := HK1.out; omega⟩, ⟨by (with_reducible repeat (first | apply Kd.R_alloc | apply Kd.R_drewN | apply Kd.R_drew)); exact HO_3.out⟩, ⟨by repeat (first | (with_reducible first | exact HB.out | apply below_alloc | apply pw_below_drewN | apply below_drew1) | exact HB.out)⟩⟩
        · rw [if_neg c3] at H
          exact absurd H (by simp)
      · rw [if_neg c2] at H
        have c2b0 : decide (x5_1 < (a0.size : Int)) = false := decide_eq_false c2
        clear c2
        by_cases c11 : x4_1 < (a0.size : Int)
        · rw [if_pos c11] at H
          have c11b0 : decide (x4_1 < (a0.size : Int)) = true := decide_eq_true c11
          clear c11
          by_cases c12 : 0 ≤ x4_1
          · rw [if_pos c12] at H
            have c12b0 := eq_true c12
            have c12b1 : decide (0 ≤ x4_1) = true := decide_eq_true c12
            clear c12
            by_cases c13 : x4_1 ≤ (a0.size : Int)
            · rw [if_pos c13] at H
              have c13b0 := eq_true c13
              have c13b1 : decide (x4_1 ≤ (a0.size : Int)) = true := decide_eq_true c13
              clear c13
              by_cases c14 : x3_1.length < 8796093022208
              · rw [if_pos c14] at H
                have LMc14 := Aside0.mk c14
                clear c14
                obtain ⟨y140, hy140⟩ : ∃ y_ : List ByteArray, y_ = (x3_1 ++ [a0.extract (x4_1 : Int).toNat a0.size]) := ⟨_, rfl⟩
                replace H : (some y140) = some r := by first | (rw [hy140]; with_reducible exact H) | (have H2_ := (Option.bind_some _ _).symm.trans H; rw [hy140]; with_reducible exact H2_) | (have H2_ := (Option.bind_some _ _).symm.trans H; with_reducible exact H2_) | with_reducible exact H | (rw [hy140]; exact H) | exact H
                have Ny140 := Aside0.mk hy140
                clear hy140
                obtain rfl := Option.some.inj H
                go_wp2_with (first | ((with_reducible refine gate_builtin (b := .append) (xs := #[.tmp 30, .tmp 34]) rfl ?_); at_builtin; refine Kd.R_append Kd.string (w0 := w) w.heap.size rfl (.tmp 30) (.tmp 34) 22 9 (.string ⟨#[]⟩) 16 rfl Tryd.underlying22 info9 rfl (by decide) (by omega) u3 x3_1 (a0.extract (x4_1 : Int).toNat a0.size) [.string (a0.extract (x4_1 : Int).toNat a0.size)] (fun _ => True) (fun _ => False) rfl rfl ?aP (fun _ hk => hk.elim) ?aF ?aO ?aB ?aS ?aL ?_; (case aP => exact rfl); (case aB => exact (by repeat (first | (with_reducible first | exact HB.out | apply below_alloc | apply pw_below_drewN | apply below_drew1) | exact HB.out))); (case aF => exact (fun _ _ => trivial)); (case aO => exact (by (with_reducible repeat (first | apply Kd.R_alloc | apply Kd.R_drewN | apply Kd.R_drew)); exact HO_3.out)); (case aS => exact (below_size (by repeat (first | (with_reducible first | exact HB.out | apply below_alloc | apply pw_below_drewN | apply below_drew1) | exact HB.out)))); (case aL => have := LMc14.out; omega); intro v141 w15 ho hb hg hat; rw [← Ny140.out] at ho; have n0_ := Aside0.mk (hb); have n1_ := Aside0.mk (ho); clear HB; clear HO_3; have HB := n0_; have HO142 := n1_; clear n0_ n1_; clear ho hb hg hat))
                go_ret
                exact ⟨_, by first | rfl | (simp [errW_none, errW_some] <;> rfl) | (simp [*, errW_none, errW_some] <;> rfl), by (with_reducible repeat (first | apply Kd.R_alloc | apply Kd.R_drewN | apply Kd.R_drew)); exact HO142.out, by repeat (first | (with_reducible first | exact HB.out | apply below_alloc | apply pw_below_drewN | apply below_drew1) | exact HB.out)⟩
              · rw [if_neg c14] at H
                exact absurd H (by simp)
            · rw [if_neg c13] at H
              exact absurd H (by simp)
          · rw [if_neg c12] at H
            exact absurd H (by simp)
        · rw [if_neg c11] at H
          have c11b0 : decide (x4_1 < (a0.size : Int)) = false := decide_eq_false c11
          clear c11
          obtain rfl := Option.some.inj H
          go_wp2
          go_ret
          exact ⟨_, by first | rfl | (simp [errW_none, errW_some] <;> rfl) | (simp [*, errW_none, errW_some] <;> rfl), by (with_reducible repeat (first | apply Kd.R_alloc | apply Kd.R_drewN | apply Kd.R_drew)); exact HO_3.out, by repeat (first | (with_reducible first | exact HB.out | apply below_alloc | apply pw_below_drewN | apply below_drew1) | exact HB.out)⟩

end Go.Proofs.YtgcilgjkihmclaaDoor.P
