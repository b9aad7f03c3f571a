import Derived.Test.YtkbhnkagiaghnaaDoorPx0
import Derived.Lib.Builder
import Derived.Lib.Bytealg
import Derived.LoopIn
import Derived.LoopNIn
import Derived.OwnWalkIn
import Derived.RangeFuncBound
import Derived.RangeFuncCalls
import Derived.RangeFuncLeaves
import Derived.RangeFuncNested
import Derived.Shelf.Abstract
import Derived.Shelf.RegionOpen
import Derived.TacticsInMore
import Derived.Test.YtkbhnkagiaghnaaDoorRangeSeq
import Derived.Test.YtkbhnkagiaghnaaDoorShelf
import Derived.WalkKit
namespace Go.Proofs.YtkbhnkagiaghnaaDoor.P
open Go.RowKit Go.Proofs.YtkbhnkagiaghnaaDoorW.PrintWords Go.Proofs.YtkbhnkagiaghnaaDoorW.PrintLast Go.Proofs.YtkbhnkagiaghnaaDoorW.PrintMore
attribute [local go_sem] max2_int min2_int max_two min_two max_three min_three max_four min_four   -- for this text's walks alone
set_option linter.unusedVariables false
set_option linter.unusedSimpArgs false
/-! ### hunks_Cut: function 18 -/
attribute [local go_sem] Oper.semAt_some
def cut_encs (x : ByteArray) : Array Value := #[.string x]
def cut_at (s : ByteArray) : Int := Lib.indexByte s.data.toList 10
/-- What the iterator hands on. -/
def cut_go : Nat → ByteArray → Option (List ByteArray)
 | 0, _ => none
 | k + 1, s => if 0 ≤ cut_at s then ((cut_go k (s.extract (cut_at s + 1).toNat s.size)).map fun l => s.extract 0 (cut_at s + 1).toNat :: l) else some [s]
def cut_Kp (b1 b2 b3 : Nat) (W W' : World) : Prop := W'.heap[b1]? = W.heap[b1]? ∧ W'.heap[b2]? = W.heap[b2]? ∧ W'.heap[b3]? = W.heap[b3]?
theorem cut_below {w W : World} {g : Nat} {o : Obj} (h : w.heap[g]? = some o) (hb : Below w.heap.size w W) : W.heap[g]? = some o := (hb.block g (blk_lt h)).trans h
theorem cut_idx (l : List UInt8) (c : UInt8) : -1 ≤ Lib.indexByte l c ∧ Lib.indexByte l c < l.length := by
 induction l with
 | nil => simp [Lib.indexByte]
 | cons b l ih =>
  simp only [Lib.indexByte, List.length_cons]
  split
  ·omega
  ·split
   ·omega
   ·omega
set_option maxHeartbeats 1000000 in
set_option maxRecDepth 100000 in
theorem cut_byte (s : ByteArray) (c : Int) (w : World) :
  Calls Tryd.prog 56 #[.string s, .int .u8 c] w fun e w' => e = .returned (.int .i64 (Lib.indexByte s.data.toList c.toNat.toUInt8)) ∧ w' = w := by
 go_enter Tryd.func56, Tryd.ntmps56
 go_wp2
 rw [run_callFunc_extern Tryd.func60 (by kernel_rfl) (by kernel_rfl) (by kernel_rfl) (e := Extern.BytealgIndexByte.indexByte) (by kernel_rfl), Lib.run_indexByteString]
 simp only [Result.andThen]
 rw [Oper.upon_value]
 go_wp2
 go_ret
 exact ⟨rfl, rfl⟩
set_option maxHeartbeats 2000000 in
set_option maxRecDepth 100000 in
theorem cut_lite (s : ByteArray) (c : UInt8) (w : World) :
  Calls Tryd.prog 54 #[.string s, .string ⟨#[c]⟩] w fun e w' => e = .returned (.int .i64 (Lib.indexByte s.data.toList c)) ∧ w' = w := by
 go_enter Tryd.func54, Tryd.ntmps54
 go_wp2_with (go_at_call 56; refine (cut_byte _ _ _).mono ?_; rintro e w' ⟨rfl, rfl⟩)
 ·have h : ([c] == s.toList) = true := by assumption
  go_ret
  refine ⟨?_, rfl⟩
  have e : s.data.toList = [c] := by rw [← ByteArray.toList_eq]; exact (beq_iff_eq.1 h).symm
  rw [e]
  simp [Lib.indexByte]
 ·go_ret
  exact ⟨rfl, rfl⟩
theorem cut_index (s : ByteArray) (w : World) :
  Calls Tryd.prog 47 #[.string s, .string ⟨#[10]⟩] w fun e w' => e = .returned (.int .i64 (cut_at s)) ∧ w' = w := by
 go_enter Tryd.func47, Tryd.ntmps47
 go_wp2_with (go_at_call 54; refine (cut_lite _ _ _).mono ?_; rintro e w' ⟨rfl, rfl⟩)
 go_ret
 exact ⟨rfl, rfl⟩
theorem cut_mk (s : ByteArray) (w : World) :
  Calls Tryd.prog 36 #[.string s, .string ⟨#[10]⟩, .int .i64 1] w fun e w' => e = .returned (.func (.func 45) #[] #[.pointer (some ⟨w.heap.size + 1, 0, none⟩), .pointer (some ⟨w.heap.size, 0, none⟩), .pointer (some ⟨w.heap.size + 1 + 1, 0, none⟩)]) ∧
   w' = ((w.alloc (.cells #[.string s] 9)).alloc (.cells #[.string ⟨#[10]⟩] 9)).alloc (.cells #[.int .i64 1] 3) := by
 have hmf : ∀ (fn : Fn) (first cap : Array Value) (w : World), (Instr.makeFunc fn first cap).run Tryd.prog w = .ok (.func fn first cap) w := fun _ _ _ _ => rfl
 go_enter Tryd.func36, Tryd.ntmps36
 go_wp2
 go_ret
 exact ⟨rfl, rfl⟩
theorem cut_mk2 (s : ByteArray) (w : World) :
  Calls Tryd.prog 27 #[.string s, .string ⟨#[10]⟩] w fun e w' => e = .returned (.func (.func 45) #[] #[.pointer (some ⟨w.heap.size + 1, 0, none⟩), .pointer (some ⟨w.heap.size, 0, none⟩), .pointer (some ⟨w.heap.size + 1 + 1, 0, none⟩)]) ∧
   w' = ((w.alloc (.cells #[.string s] 9)).alloc (.cells #[.string ⟨#[10]⟩] 9)).alloc (.cells #[.int .i64 1] 3) := by
 go_enter Tryd.func27, Tryd.ntmps27
 go_wp2_with (go_at_call 36; refine (cut_mk _ _).mono ?_; rintro e w' ⟨rfl, rfl⟩)
 go_ret
 exact ⟨rfl, rfl⟩
set_option maxHeartbeats 8000000 in
set_option maxRecDepth 100000 in
theorem cut_gives (k : Nat) (s : ByteArray) (hs : s.size ≤ 140737488351232) (xs : List ByteArray) (w : World) (b1 b2 b3 : Nat) (h12 : b1 ≠ b2) (h32 : b3 ≠ b2)
  (hb1 : w.heap[b1]? = some (.cells #[.string ⟨#[10]⟩] 9 (0, 0))) (hb2 : w.heap[b2]? = some (.cells #[.string s] 9 (0, 0))) (hb3 : w.heap[b3]? = some (.cells #[.int .i64 1] 3 (0, 0)))
  (h : cut_go k s = some xs) :
  RangeSeq.Gives Fence.wide 2 Tryd.prog 45 #[.pointer (some ⟨b1, 0, none⟩), .pointer (some ⟨b2, 0, none⟩), .pointer (some ⟨b3, 0, none⟩)] cut_encs (cut_Kp b1 b2 b3) b2 xs w := by
 intro l J W hW hJ hY h0
 have e1 := cut_below hb1 hW
 have e2 := cut_below hb2 hW
 have e3 := cut_below hb3 hW
 refine callsIn_of_wp Tryd.func45 rfl trivial ?_ rfl
 simp only [Tryd.ntmps45, List.size_toArray, List.length_cons, List.length_nil, Nat.reduceAdd, Nat.reduceSub, Array.replicate_succ, Array.replicate_zero, List.push_toArray, List.append_toArray, List.nil_append, List.cons_append]
 have q0 := (blk_cell e1 0).trans rfl
 have q2 := (blk_cell e2 0).trans rfl
 have q3 := (blk_cell e3 0).trans rfl
 gi_wp2_with fail
 have E1_ := Aside0.mk e1
 have E2_ := Aside0.mk e2
 have E3_ := Aside0.mk e3
 have HS_ := Aside0.mk hs
 have H0_ := Aside0.mk h0
 clear q0 q2 q3 e1 e2 e3 hs h0 hb1 hb2 hb3 hW
 rename_i K hK
 refine wpIn_wide.2 ?_
 go_loopg [7] k (fun kq v7 wr => ∃ (t : ByteArray) (pre ys : List ByteArray), Aside0 (cut_go kq t = some ys) ∧ Aside0 (xs = pre ++ ys) ∧ Aside0 (J pre wr) ∧ Aside0 (wr.heap[b1]? = some (.cells #[.string ⟨#[10]⟩] 9 (0, 0))) ∧ Aside0 (wr.heap[b2]? = some (.cells #[.string t] 9 (0, 0))) ∧ Aside0 (wr.heap[b3]? = some (.cells #[.int .i64 1] 3 (0, 0))) ∧ Aside0 (t.size ≤ 140737488351232))
 case atStart =>
  exact ⟨s, [], xs, ⟨h⟩, ⟨rfl⟩, H0_, E1_, E2_, E3_, HS_⟩
 case round =>
  obtain ⟨t, pre, ys, HG, HX, HJ, E1, E2, E3, HS⟩ := hrel
  cases gk with
  | zero => exact absurd HG.out (by simp [cut_go])
  | succ k1 =>
   have H := HG.out
   clear HG E1_ E2_ E3_ HS_ H0_
   unfold cut_go at H
   obtain ⟨i, hi⟩ : ∃ i, cut_at t = i := ⟨_, rfl⟩
   have hr := cut_idx t.data.toList 10
   rw [show Lib.indexByte t.data.toList 10 = i from hi, data_length] at hr
   have HI := Aside0.mk hi
   rw [hi] at H
   clear hi
   have q1 := (blk_cell E1.out 0).trans rfl
   have q2 := (blk_cell E2.out 0).trans rfl
   have q3 := (blk_cell E3.out 0).trans rfl
   by_cases c : 0 ≤ i
   ·rw [if_pos c] at H
    obtain ⟨ys', HG', rfl⟩ := Option.map_eq_some_iff.mp H
    have HG2 := Aside0.mk HG'
    have hw : wrap64 (i + 1) = i + 1 := by unfold wrap64; have := HS.out; omega
    have d0 : decide (i < 0) = false := decide_eq_false (by omega)
    have d2 : (i + 1 ≤ (t.size : Int)) = True := eq_true (by omega)
    have d3 : (0 ≤ i + 1) = True := eq_true (by omega)
    have HR := Aside0.mk (And.intro c hr)
    clear H HG' c hr
    go_upto_region 8 with (go_at_call 47; (with_reducible refine (cut_index t _).mono ?_); rintro e w3 ⟨rfl, rfl⟩; rw [HI.out])
    obtain ⟨fn, tmps, assign, body, hy, hR⟩ := hY pre (t.extract 0 (i + 1).toNat) w3 HJ.out (by rw [HX.out]; simp)
    simp only [cut_encs] at hy
    go_cut [42] (fun v42 wx => v42 = .bool false ∧ Aside0 (J (pre ++ [t.extract 0 (i + 1).toNat]) wx) ∧ Aside0 (wx.heap[b1]? = some (.cells #[.string ⟨#[10]⟩] 9 (0, 0))) ∧ Aside0 (wx.heap[b2]? = some (.cells #[.string t] 9 (0, 0))) ∧ Aside0 (wx.heap[b3]? = some (.cells #[.int .i64 1] 3 (0, 0))))
    case first =>
     refine (wpIn_wide (n := 2)).1 ?_
     gi_wp2_with fail
     refine hR.mono ?_
     rintro e W' ⟨rfl, hJ', hk⟩
     gi_wp2_with fail
     go_meet
     exact ⟨rfl, ⟨hJ'⟩, ⟨hk.1.trans E1.out⟩, ⟨hk.2.1.trans E2.out⟩, ⟨hk.2.2.trans E3.out⟩⟩
    obtain ⟨rfl, HJ2, M1, M2, M3⟩ := hcut
    clear hR hy q1 q2 q3
    have q1 := (blk_cell M1.out 0).trans rfl
    have q2 := (blk_cell M2.out 0).trans rfl
    have f2 := blk_frozen M2.out 0
    have n1 := Aside0.mk (blk_far M1.out (p := ⟨b2, 0, none⟩) h12 (.string (t.extract (i + 1).toNat t.size)))
    have n3 := Aside0.mk (blk_far M3.out (p := ⟨b2, 0, none⟩) h32 (.string (t.extract (i + 1).toNat t.size)))
    have n2 := Aside0.mk (blk_put (cs' := #[.string (t.extract (i + 1).toNat t.size)]) M2.out 0 (.string (t.extract (i + 1).toNat t.size)) rfl)
    have hJn := Aside0.mk (hJ _ _ _ HJ2.out (.inr (grownBy_setCell' _ b2 (.string (t.extract (i + 1).toNat t.size)))))
    have hsz : (t.extract (i + 1).toNat t.size).size ≤ 140737488351232 := by rw [ByteArray.size_extract]; have := HS.out; omega
    have HSZ := Aside0.mk hsz
    clear hsz
    go_wp2_with fail
    go_roundg k1
    case measure => omega
    case rel => exact ⟨t.extract (i + 1).toNat t.size, pre ++ [t.extract 0 (i + 1).toNat], ys', HG2, ⟨by rw [HX.out, List.append_assoc]; rfl⟩, hJn, n1, n2, n3, HSZ⟩
   ·rw [if_neg c] at H
    obtain rfl := Option.some.inj H
    have d0 : decide (i < 0) = true := decide_eq_true (by omega)
    clear H c hr
    go_wp2_with (go_at_call 47; (with_reducible refine (cut_index t _).mono ?_); rintro e w3 ⟨rfl, rfl⟩; rw [HI.out])
    obtain ⟨fn, tmps, assign, body, hy, hR⟩ := hY pre t w3 HJ.out (by rw [HX.out]; simp)
    simp only [cut_encs] at hy
    gi_wp2_with fail
    refine hR.mono ?_
    rintro e W' ⟨rfl, hJ', hk⟩
    gi_wp2_with fail
    try simp only [Exit.noGoto]
    refine bodyPost_end (results_none rfl _ _ _) rfl ?_
    exact ⟨⟨_, rfl⟩, by rw [HX.out]; exact hJ'⟩
def cut_outs (l : List ByteArray) : List ByteArray := l.filter fun s => !(s.toList == ([] : List UInt8))
def cut_cells (l : List ByteArray) : List Value := l.map Value.string
theorem cut_reps (w : World) (base : Nat) (ok : Nat → Prop) (l : List ByteArray) : Reps (Kd.string.M w base ok) 1 l (cut_cells l) := by
 have key : ∀ m : List ByteArray, Reps (Kd.string.M w base ok) 1 m.reverse (cut_cells m.reverse) := by
  intro m
  induction m with
  | nil => exact Reps.none _ _
  | cons x m ih =>
   rw [List.reverse_cons]
   have e : cut_cells (m.reverse ++ [x]) = cut_cells m.reverse ++ [.string x] := by unfold cut_cells; rw [List.map_append]; rfl
   rw [e]
   exact Reps.snoc ih rfl rfl
 have := key l.reverse
 rwa [List.reverse_reverse] at this
theorem cut_R {W : World} {B base : Nat} {v : Value} {l : List ByteArray} (h : W.ownsRow B 9 1 v l.length (cut_cells l)) (hb : base ≤ B) : Kd.R Kd.string 9 W base (fun _ => True) v l :=
 ⟨fun _ _ => trivial, cut_cells l, own_weaken h hb, cut_reps _ _ _ l⟩
def cut_I (w : World) (B b8 : Nat) (pre : List ByteArray) (W : World) : Prop :=
 (∃ v, W.heap[b8]? = some (.cells #[v] 22 (0, 0)) ∧ W.ownsRow B 9 1 v (cut_outs pre).length (cut_cells (cut_outs pre))) ∧ Below w.heap.size w W ∧ B ≤ W.heap.size
theorem cut_I_grown {w W W' : World} {B b8 : Nat} {pre : List ByteArray} {row : Option Nat} (h : cut_I w B b8 pre W) (h8 : b8 < B) (hg : W.grownBy W' row)
  (h8r : some b8 ≠ row) (hw : ∀ k, row = some k → w.heap.size ≤ k) (hrow : ∀ k, row = some k → k < B ∨ ∃ o, W.heap[k]? = some o ∧ o.isCells = false) : cut_I w B b8 pre W' := by
 obtain ⟨⟨v, hv, ho⟩, hb, hB⟩ := h
 refine ⟨⟨v, blk_grown hv hg h8r, ho.kept hg ?_⟩, hb.grown hg hb.size hw, Nat.le_trans hB hg.size⟩
 cases hk : v.ownBlock with
 | none => exact .inl rfl
 | some k =>
  refine .inr (fun e => ?_)
  rcases hrow k e.symm with hlt | ⟨o, ho1, ho2⟩
  ·have := own_base ho k hk
   omega
  ·obtain ⟨cs, hc⟩ := own_typed ho k hk
   rw [hc] at ho1
   cases ho1
   cases ho2
theorem cut_outs_e (pre : List ByteArray) (x : ByteArray) (h : (x.toList == ([] : List UInt8)) = true) : cut_outs (pre ++ [x]) = cut_outs pre := by simp [cut_outs, beq_iff_eq.1 h]
theorem cut_outs_n (pre : List ByteArray) (x : ByteArray) (h : (x.toList == ([] : List UInt8)) = false) : cut_outs (pre ++ [x]) = cut_outs pre ++ [x] := by
 unfold cut_outs
 rw [List.filter_append]
 congr 1
 rw [List.filter_cons, h]
 rfl
theorem cut_cells_snoc (l : List ByteArray) (x : ByteArray) : cut_cells (l ++ [x]) = cut_cells l ++ [.string x] := by simp [cut_cells]
theorem cut_outs_le (l : List ByteArray) : (cut_outs l).length ≤ l.length := List.length_filter_le _ _
def hunks_Cut.f (k : Nat) (a0 : ByteArray) : Option (List ByteArray) := (cut_go k a0).bind fun xs => if xs.length ≤ 1000000 ∧ a0.size ≤ 140737488351232 then some (cut_outs xs) else none
theorem cut_go.mono : ∀ k s, LeO (cut_go k s) (cut_go (k + 1) s)
 | 0, _ => LeO.none _
 | k + 1, s => by
  have ih := cut_go.mono k
  unfold cut_go
  exact LeO.ite (LeO.map _ (ih _)) (LeO.refl _)
set_option maxHeartbeats 8000000 in
set_option maxRecDepth 100000 in
theorem hunks_Cut.calls (k : Nat) (a0 : ByteArray) (r : List ByteArray) (w : World) (h : hunks_Cut.f k a0 = some r) :
  Calls Tryd.prog 18 #[.string a0] w fun e w' => ∃ v0_ : Value, e = .returned (v0_) ∧ Kd.R Kd.string 9 w' w.heap.size (fun _ => True) v0_ r ∧ Below w.heap.size w w' := by
 unfold hunks_Cut.f at h
 replace h := Option.bind_eq_some_iff.mp h
 obtain ⟨xs, A1, h⟩ := h
 by_cases hl : xs.length ≤ 1000000 ∧ a0.size ≤ 140737488351232
 rotate_left
 ·rw [if_neg hl] at h
  cases h
 rw [if_pos hl] at h
 obtain rfl := Option.some.inj h
 have HA := Aside0.mk A1
 have HL := Aside0.mk hl.1
 have HS0 := Aside0.mk hl.2
 clear A1 hl h
 refine (callsIn_wide (n := 3)).1 ?_
 refine callsIn_of_wp_marks Tryd.func18 rfl trivial ?_ rfl
 simp only [Tryd.ntmps18, List.size_toArray, List.length_cons, List.length_nil, Nat.reduceAdd, Nat.reduceSub, Array.replicate_succ, Array.replicate_zero, List.push_toArray, List.append_toArray, List.nil_append, List.cons_append]
 gi_wp2_with (refine ⟨trivial, ?_⟩; gi_at_call 27; refine ((callsIn_wide (n := 3 - 1)).2 (cut_mk2 a0 _)).mono ?_; rintro e w' ⟨rfl, rfl⟩)
 have hW0 : ∀ W0, (((((w.alloc (.cells #[.slice none 0 0] 22)).alloc (.cells #[.string a0] 9)).alloc (.cells #[.string ⟨#[10]⟩] 9)).alloc (.cells #[.int .i64 1] 3))) = W0 →
   W0.heap.size = w.heap.size + 4 ∧ Below w.heap.size w W0 ∧ W0.heap[w.heap.size]? = some (.cells #[.slice none 0 0] 22 (0, 0)) ∧
   W0.heap[w.heap.size + 1]? = some (.cells #[.string a0] 9 (0, 0)) ∧ W0.heap[w.heap.size + 2]? = some (.cells #[.string ⟨#[10]⟩] 9 (0, 0)) ∧ W0.heap[w.heap.size + 3]? = some (.cells #[.int .i64 1] 3 (0, 0)) := by
  rintro W0 rfl
  have n0 := heap_alloc_new w (.cells #[.slice none 0 0] 22)
  have n1 := heap_alloc_new (w.alloc (.cells #[.slice none 0 0] 22)) (.cells #[.string a0] 9)
  have n2 := heap_alloc_new ((w.alloc (.cells #[.slice none 0 0] 22)).alloc (.cells #[.string a0] 9)) (.cells #[.string ⟨#[10]⟩] 9)
  have n3 := heap_alloc_new (((w.alloc (.cells #[.slice none 0 0] 22)).alloc (.cells #[.string a0] 9)).alloc (.cells #[.string ⟨#[10]⟩] 9)) (.cells #[.int .i64 1] 3)
  simp only [World.size_alloc] at n1 n2 n3
  refine ⟨by simp, ?_, blk_alloc (blk_alloc (blk_alloc n0 _) _) _, blk_alloc (blk_alloc n1 _) _, blk_alloc n2 _, n3⟩
  exact ((((Below.refl _ w).alloc (Nat.le_refl _) _).alloc (by simp) _).alloc (by simp; omega) _).alloc (by simp; omega) _
 try simp only [World.size_alloc]
 generalize (((((w.alloc (.cells #[.slice none 0 0] 22)).alloc (.cells #[.string a0] 9)).alloc (.cells #[.string ⟨#[10]⟩] 9)).alloc (.cells #[.int .i64 1] 3))) = W0 at hW0 ⊢
 obtain ⟨hs, hbW, m8, m2, m1, m3⟩ := hW0 W0 rfl
 clear hW0
 rename_i Q' K hK
 have h0 : cut_I w W0.heap.size w.heap.size [] W0 := ⟨⟨_, m8, own_nil _ _ _ _⟩, hbW, Nat.le_refl _⟩
 refine RangeSeq.range_gives (C := w.heap.size + 1) (by omega) rfl (by omega) (gf := 45) (lb := #[.pointer (some ⟨w.heap.size + 1 + 1, 0, none⟩), .pointer (some ⟨w.heap.size + 1, 0, none⟩), .pointer (some ⟨w.heap.size + 1 + 1 + 1, 0, none⟩)]) rfl trivial
  (enters_of Tryd.func45 (by kernel_rfl) rfl) (encs := cut_encs) (Kp := cut_Kp (w.heap.size + 1 + 1) (w.heap.size + 1) (w.heap.size + 1 + 1 + 1)) (xs := xs)
  (cut_gives k a0 HS0.out xs W0 _ _ _ (by omega) (by omega) m1 m2 m3 HA.out) ?hKt ?hKb (fun _ => rfl) (cut_I w W0.heap.size w.heap.size) ?hI ?hIC h0
  (fun x a' W => a' = { tmps := #[.string a0, undef, .slice none 0 0, .pointer (some ⟨w.heap.size, 0, none⟩), .string x, .string a0,
    .func (.func 45) #[] #[.pointer (some ⟨w.heap.size + 1 + 1, 0, none⟩), .pointer (some ⟨w.heap.size + 1, 0, none⟩), .pointer (some ⟨w.heap.size + 1 + 1 + 1, 0, none⟩)],
    .string x, undef, undef, undef, undef, undef, undef, undef], defers := [] }) ?hAx ?assign ?body ?done
 case hKt =>
  rintro X Y Z ⟨h1, h2, h3⟩ ⟨k1, k2, k3⟩
  exact ⟨k1.trans h1, k2.trans h2, k3.trans h3⟩
 case hKb =>
  intro W k o o' hk _ _
  exact ⟨World.putObj_heap_other (by omega), World.putObj_heap_other (by omega), World.putObj_heap_other (by omega)⟩
 case hI =>
  intro pre W W' row hi hg hrow
  have hr : ∀ k, row = some k → W0.heap.size ≤ k := fun k e => (hrow k e).1
  refine cut_I_grown hi (by omega) hg ?_ (fun k e => by have := hr k e; omega) (fun k e => .inr (hrow k e).2)
  intro e
  have := hr _ e.symm
  omega
 case hIC =>
  rintro pre W W' hi (hg | hg)
  ·exact cut_I_grown hi (by omega) hg (by simp) (fun k e => by cases e) (fun k e => by cases e)
  ·exact cut_I_grown hi (by omega) hg (fun e => by injection e; omega) (fun k e => by injection e; omega) (fun k e => by injection e; exact .inl (by omega))
 case hAx =>
  intro x a' _ W W' row hax hg hrow
  exact hax
 case assign =>
  rintro l pre x W K2 hi hK2
  simp only [cut_encs]
  gi_wp2
  exact hK2 _ _ (KeepsFrom.refl _ _) ⟨rfl, rfl, rfl⟩ hi rfl
 case body =>
  rintro l pre x a' W hi hlen rfl
  obtain ⟨⟨v, hv, ho⟩, hb, hB⟩ := hi
  have c8 := (blk_cell hv 0).trans rfl
  have f8 := blk_frozen hv 0
  have HS := Aside0.mk hs
  have HBW := Aside0.mk hB
  have hnew := heap_alloc_new W (.cells #[.string x] 9)
  cases hx : (x.toList == ([] : List UInt8)) with
  | true =>
   clear hs hB
   gi_wp2_with fail
   refine ⟨KeepsFrom.refl _ _, ⟨rfl, rfl, rfl⟩, ⟨v, hv, ?_⟩, hb, HBW.out⟩
   rw [cut_outs_e pre x hx]
   exact ho
  | false =>
   obtain ⟨i0, hi0, hz0, hz1, hz2⟩ := info_parts info9
   have hlen2 : (cut_outs pre).length + 1 ≤ 1000000 := by
    have := cut_outs_le pre
    have := HL.out
    omega
   have HLE := Aside0.mk hlen2
   have HX := Aside0.mk hlen
   clear hlen2 hlen hs hB
   gi_wp2_with (gi_at_builtin; refine wpListIn_append_own _ rfl _ _ 22 rfl W0.heap.size 9 i0 _ 1 16 Tryd.underlying22 hi0 hz0 hz1 hz2 rfl (by decide) _ _ _ rfl (ho.alloc _) ⟨W.heap.size, 0, none⟩ 1 1 [.string x] rfl rfl ?c1 ?c2 ?c3 ?c4 ?c5 ?_; (case c1 => intro j u hj; (match j, hj with | 0, hj => exact (blk_cell hnew 0).trans hj)); (case c2 => intro u hu; simp at hu; subst hu; rfl); (case c3 => have := HLE.out; unfold maxLen; omega); (case c4 => have := HLE.out; omega); (case c5 => have := HBW.out; simp; omega); intro v' w1 hown' hgrow _; obtain ⟨g', cap', rfl⟩ := ownsRow_succ hown'; obtain ⟨hv1, hv2, _, hk2, hb2⟩ := Boxed.appended (B := w.heap.size) hv (by decide) (own_weaken ho hbW.size) hb.size (Nat.le_refl _) (own_weaken hown' hbW.size) hgrow; have hc1 := hv1.cell; have hf1 := hv1.frozen)
   have hgrow : (W.alloc (.cells #[.string x] 9)).grownBy w1 v.ownBlock := hgrow
   have hs' := HS.out
   have hB' := HBW.out
   have key : ∀ j, w.heap.size < j → j < W0.heap.size → (w1.setCell ⟨w.heap.size, 0, none⟩ (.slice (some ⟨g', 0, none⟩) ((cut_outs pre).length + 1) cap')).heap[j]? = W.heap[j]? := by
    intro j j1 j2
    refine (Below.heap_setCell _ _ _ j (by show j ≠ w.heap.size; omega)).trans ((hgrow.block j (by simp; omega) (fun e => ?_)).trans (Below.heap_alloc _ _ j (by omega)))
    have := own_base ho _ e.symm
    omega
   refine ⟨hk2.from _, ⟨key _ (by omega) (by omega), key _ (by omega) (by omega), key _ (by omega) (by omega)⟩, ⟨_, hv2, ?_⟩, hb.trans hb2, ?_⟩
   ·rw [cut_outs_n pre x hx, cut_cells_snoc, List.length_append]
    refine hown'.kept (grownBy_setCell' w1 w.heap.size _) (.inr (fun e => ?_))
    have := own_base hown' _ e
    omega
   ·have := hk2.size
    omega
 case done =>
  intro D W hD hi hDk
  obtain ⟨⟨v, hv, ho⟩, hb, hB⟩ := hi
  have c8 := (blk_cell hv 0).trans rfl
  refine hK _ _ ?_
  gi_wp2
  refine ⟨by simp, .inl ⟨_, _, rfl, run_takeDeferred hDk, ⟨_, results_tmp rfl _ _ _, v, rfl, ?_, ?_⟩⟩⟩
  ·refine cut_R (ho.kept (grownBy_putObj' W D (.deferred none)) (.inr (fun e => ?_))) hbW.size
   obtain ⟨cs, hc⟩ := own_typed ho _ e
   rw [hc] at hDk
   cases hDk
  ·exact hb.grown (grownBy_putObj' W D (.deferred none)) hb.size (fun k e => by injection e; omega)
/-! ### slices_Equal__string_string: function 28 -/
def slices_Equal__string_string.l0 : Nat → List ByteArray → List ByteArray → Int → Int → Option (Bool)
 | 0, _, _, _, _ => none
 | k + 1, x0, x1, x12, x13 => if x13 < x12 then (if 0 ≤ x13 then (if x13 < (x0.length : Int) then (if x13 < (x1.length : Int) then (if (rdOf ByteArray.empty x0 x13).toList = (rdOf ByteArray.empty x1 x13).toList then (slices_Equal__string_string.l0 k x0 x1 x12 (wrap64 (x13 + 1))) else (some false)) else (none)) else (none)) else (none)) else (some true)
def slices_Equal__string_string.f (k : Nat) (l0 : List ByteArray) (l1 : List ByteArray) : Option (Bool) := if (l0.length : Int) = (l1.length : Int) then (slices_Equal__string_string.l0 k l0 l1 (l0.length : Int) 0) else (some false)
theorem slices_Equal__string_string.mono_l : ∀ k, (∀ y0 y1 y2 y3, LeO (slices_Equal__string_string.l0 k y0 y1 y2 y3) (slices_Equal__string_string.l0 (k + 1) y0 y1 y2 y3))
 | 0 => fun _ _ _ _ r h => by simp [slices_Equal__string_string.l0] at h
 | k + 1 => by
  have ih0 := slices_Equal__string_string.mono_l k
  ·intro y0 y1 y2 y3
   unfold slices_Equal__string_string.l0
   repeat' first
   | (with_reducible exact ih0 _ _ _ _)
   | (with_reducible exact LeO.refl _)
   | (with_reducible exact LeO.none _)
   | (with_reducible refine LeO.ite ?_ ?_)
   | (with_reducible refine LeO.bind ?_ (fun _ => ?_))
   | exact ih0 _ _ _ _
   | exact LeO.none _
   | refine LeO.ite ?_ ?_
   | refine LeO.bind ?_ (fun _ => ?_)
theorem slices_Equal__string_string.mono : ∀ a0 a1 k, LeO (slices_Equal__string_string.f k a0 a1) (slices_Equal__string_string.f (k + 1) a0 a1) := by
 intro a0 a1 k
 have ih0 := slices_Equal__string_string.mono_l k
 unfold slices_Equal__string_string.f
 repeat' first
   | (with_reducible exact ih0 _ _ _ _)
   | (with_reducible exact LeO.refl _)
   | (with_reducible exact LeO.none _)
   | (with_reducible refine LeO.ite ?_ ?_)
   | (with_reducible refine LeO.bind ?_ (fun _ => ?_))
   | exact ih0 _ _ _ _
   | exact LeO.none _
   | refine LeO.ite ?_ ?_
   | refine LeO.bind ?_ (fun _ => ?_)
set_option maxHeartbeats 8000000 in
set_option maxRecDepth 100000 in
theorem slices_Equal__string_string.calls (k : Nat) (A0 : Option Addr) (c0 : Nat) (l0 : List ByteArray) (A1 : Option Addr) (c1 : Nat) (l1 : List ByteArray) (r : Bool) (w : World) (hr0 : Kd.C Kd.string w A0 l0.length l0) (hc0 : l0.length ≤ c0) (hr1 : Kd.C Kd.string w A1 l1.length l1) (hc1 : l1.length ≤ c1) (h : slices_Equal__string_string.f k l0 l1 = some r) :
  Calls Tryd.prog 28 #[.slice A0 l0.length c0, .slice A1 l1.length c1] w fun e w' => e = .returned (.bool r) ∧ Drawn0 w w' := by
 have HR0 := Aside0.mk hr0
 have HC0 := Aside0.mk hc0
 clear hr0 hc0
 have HR1 := Aside0.mk hr1
 have HC1 := Aside0.mk hc1
 clear hr1 hc1
 have H : (if (l0.length : Int) = (l1.length : Int) then (slices_Equal__string_string.l0 k l0 l1 (l0.length : Int) 0) else (some false)) = some r := h
 clear h
 by_cases c3 : (l0.length : Int) = (l1.length : Int)
 ·rw [if_pos c3] at H
  have c3b0 : ((l0.length : Int) == (l1.length : Int)) = true := beq_iff_eq.mpr c3
  have c3b1 : ((l0.length : Int) != (l1.length : Int)) = false := bne_eq_false_iff_eq.mpr c3
  have c3b2 : (l0.length == l1.length) = true := by first | simpa using c3 | (simp at c3 ⊢; omega)
  clear c3
  have H' := Aside0.mk H
  clear H
  go_enter Tryd.func28, Tryd.ntmps28
  go_wp2
  repeat (go_quiet (fail); try go_wp2)
  go_loopg [13] k (fun kq v13 w' => ∃ (x13_1 : Int), v13 = .int .i64 x13_1 ∧ Aside0 (slices_Equal__string_string.l0 kq l0 l1 (l0.length : Int) x13_1 = some r) ∧ Aside0 (kq ≤ k) ∧ Drawn0 w w')
  case atStart => exact ⟨(0), (by first | rfl | (simp; done) | (simp [*]; done)), H', ⟨Nat.le_refl _⟩, by repeat (first | exact Drawn0.refl _ | apply Drawn0.step)⟩
  case round =>
   clear H'
   try clear c1
   try clear c2
   try clear p2
   try clear c3
   try clear c3b0
   try clear c3b1
   try clear c3b2
   obtain ⟨x13_1, rfl, HA, HK1, ⟨m1, rfl⟩⟩ := hrel
   cases gk with
   | zero => exact absurd HA.out (by simp [slices_Equal__string_string.l0])
   | succ k1 =>
    have H := HA.out
    clear HA
    simp only [slices_Equal__string_string.l0] at H
    by_cases c4 : x13_1 < (l0.length : Int)
    ·rw [if_pos c4] at H
     have c4b0 : decide (x13_1 < (l0.length : Int)) = true := decide_eq_true c4
     clear c4
     by_cases c5 : 0 ≤ x13_1
     ·rw [if_pos c5] at H
      have c5b0 : decide (0 ≤ x13_1) = true := decide_eq_true c5
      clear c5
      by_cases c6 : x13_1 < (l0.length : Int)
      ·rw [if_pos c6] at H
       have c6b0 : decide (x13_1 < (l0.length : Int)) = true := decide_eq_true c6
       clear c6
       by_cases c7 : x13_1 < (l1.length : Int)
       ·rw [if_pos c7] at H
        have c7b0 : decide (x13_1 < (l1.length : Int)) = true := decide_eq_true c7
        clear c7
        by_cases c8 : (rdOf ByteArray.empty l0 x13_1).toList = (rdOf ByteArray.empty l1 x13_1).toList
        ·rw [if_pos c8] at H
         have c8b0 : ((rdOf ByteArray.empty l0 x13_1).toList == (rdOf ByteArray.empty l1 x13_1).toList) = true := beq_iff_eq.mpr c8
         have c8b1 : ((rdOf ByteArray.empty l0 x13_1).toList != (rdOf ByteArray.empty l1 x13_1).toList) = false := bne_eq_false_iff_eq.mpr c8
         clear c8
         have H' := Aside0.mk H
         clear H
         have p118 : 0 ≤ (x13_1 : Int) := of_decide_eq_true (by first | (with_reducible assumption) | assumption)
         have q118 : x13_1 < (l0.length : Int) := of_decide_eq_true (by first | (with_reducible assumption) | assumption)
         obtain ⟨ad118, e118, hx118_0⟩ := Kd.at_string HR0.out x13_1 p118 q118
         cases e118
         replace p118 := eq_true p118
         replace q118 := eq_true q118
         have p119 : 0 ≤ (x13_1 : Int) := of_decide_eq_true (by first | (with_reducible assumption) | assumption)
         have q119 : x13_1 < (l1.length : Int) := of_decide_eq_true (by first | (with_reducible assumption) | assumption)
         obtain ⟨ad119, e119, hx119_0⟩ := Kd.at_string HR1.out x13_1 p119 q119
         cases e119
         replace p119 := eq_true p119
         replace q119 := eq_true q119
         go_wp2
         repeat (go_quiet (fail); try go_wp2)
         go_roundg k1
         case measure => have := HK1.out; omega
         case rel => exact ⟨(wrap64 (x13_1 + 1)), (by first | rfl | (simp; done) | (simp [*]; done)), H', ⟨by have := HK1.out; omega⟩, by repeat (first | exact Drawn0.refl _ | apply Drawn0.step)⟩
        ·rw [if_neg c8] at H
         have c8b0 : ((rdOf ByteArray.empty l0 x13_1).toList == (rdOf ByteArray.empty l1 x13_1).toList) = false := beq_eq_false_iff_ne.mpr c8
         have c8b1 : ((rdOf ByteArray.empty l0 x13_1).toList != (rdOf ByteArray.empty l1 x13_1).toList) = true := bne_iff_ne.mpr c8
         obtain rfl := Option.some.inj H
         have p118 : 0 ≤ (x13_1 : Int) := of_decide_eq_true (by first | (with_reducible assumption) | assumption)
         have q118 : x13_1 < (l0.length : Int) := of_decide_eq_true (by first | (with_reducible assumption) | assumption)
         obtain ⟨ad118, e118, hx118_0⟩ := Kd.at_string HR0.out x13_1 p118 q118
         cases e118
         replace p118 := eq_true p118
         replace q118 := eq_true q118
         have p119 : 0 ≤ (x13_1 : Int) := of_decide_eq_true (by first | (with_reducible assumption) | assumption)
         have q119 : x13_1 < (l1.length : Int) := of_decide_eq_true (by first | (with_reducible assumption) | assumption)
         obtain ⟨ad119, e119, hx119_0⟩ := Kd.at_string HR1.out x13_1 p119 q119
         cases e119
         replace p119 := eq_true p119
         replace q119 := eq_true q119
         go_wp2
         repeat (go_quiet (fail); try go_wp2)
         go_ret
         exact ⟨by first | rfl | (simp; done) | (simp [*]; done), by repeat (first | exact Drawn0.refl _ | apply Drawn0.step)⟩
       ·rw [if_neg c7] at H
        exact absurd H (by simp)
      ·rw [if_neg c6] at H
       exact absurd H (by simp)
     ·rw [if_neg c5] at H
      exact absurd H (by simp)
    ·rw [if_neg c4] at H
     have c4b0 : decide (x13_1 < (l0.length : Int)) = false := decide_eq_false c4
     clear c4
     obtain rfl := Option.some.inj H
     go_wp2
     repeat (go_quiet (fail); try go_wp2)
     go_ret
     exact ⟨by first | rfl | (simp; done) | (simp [*]; done), by repeat (first | exact Drawn0.refl _ | apply Drawn0.step)⟩
 ·rw [if_neg c3] at H
  have c3b0 : ((l0.length : Int) == (l1.length : Int)) = false := beq_eq_false_iff_ne.mpr c3
  have c3b1 : ((l0.length : Int) != (l1.length : Int)) = true := bne_iff_ne.mpr c3
  have c3b2 : (l0.length == l1.length) = false := by first | simpa using c3 | (simp at c3 ⊢; omega)
  obtain rfl := Option.some.inj H
  go_enter Tryd.func28, Tryd.ntmps28
  go_wp2
  repeat (go_quiet (fail); try go_wp2)
  go_ret
  exact ⟨by first | rfl | (simp; done) | (simp [*]; done), by repeat (first | exact Drawn0.refl _ | apply Drawn0.step)⟩
/-! ### strings_Join: function 29 -/
def strings_Join.f (l : List ByteArray) (sep : ByteArray) : Option ByteArray :=
 if l.length ≤ 1000000 ∧ (Lib.join (l.map (·.data.toList)) sep.data.toList).length ≤ 1099511627776 then some ⟨(Lib.join (l.map (·.data.toList)) sep.data.toList).toArray⟩ else none
theorem join_at {w : World} {A : Option Addr} {l : List ByteArray} (h : Kd.C Kd.string w A l.length l) (hp : 0 < l.length) : ∃ bk o, A = some ⟨bk, o, none⟩ ∧ bk < w.heap.size ∧ ∀ (j : Nat) x, l[j]? = some x → w.cell? ⟨bk, o + j, none⟩ = some (.string x) := by
 obtain ⟨_, _, h3⟩ := h
 obtain ⟨ad, rfl, hc⟩ := h3 hp
 have key : ∀ (j : Nat) x, l[j]? = some x → w.cell? (ad.add j) = some (.string x) := by
  intro j x hx
  obtain ⟨c, hcl, hR, hcc⟩ := hc j x hx
  obtain rfl : c = [.string x] := hR
  have := hcc 0 _ rfl
  have e : Kd.string.sz = 1 := rfl
  rwa [e, Nat.mul_one, Nat.add_zero] at this
 have h0 := key 0 _ (List.getElem?_eq_getElem hp)
 obtain ⟨bk, o, sp⟩ := ad
 have hsp : sp = none := by
  cases sp with
  | none => rfl
  | some s =>
   exfalso
   simp only [Addr.add, if_pos] at h0
   unfold World.cell? at h0
   split at h0
   ·simp at h0
   ·cases h0
 subst hsp
 refine ⟨bk, o, rfl, ?_, fun j x hx => ?_⟩
 ·rcases Nat.lt_or_ge bk w.heap.size with q | q
  ·exact q
  ·exfalso
   simp only [Addr.add, if_pos] at h0
   unfold World.cell? at h0
   rw [Array.getElem?_eq_none (by exact q)] at h0
   cases h0
 ·have := key j x hx
  rcases Nat.eq_zero_or_pos j with rfl | hj
  ·exact this
  ·unfold Addr.add at this
   rw [if_neg (by omega)] at this
   exact this
theorem strings_Join.calls (A0 : Option Addr) (c0 : Nat) (l0 : List ByteArray) (a1 : ByteArray) (r : ByteArray) (w : World) (hr0 : Kd.C Kd.string w A0 l0.length l0) (hc0 : l0.length ≤ c0) (h : strings_Join.f l0 a1 = some r) :
  Calls Tryd.prog 29 #[.slice A0 l0.length c0, .string a1] w fun e w' => e = .returned (.string r) ∧ Below w.heap.size w w' := by
 unfold strings_Join.f at h
 split at h
 ·rename_i hb
  obtain rfl := Option.some.inj h
  rcases Nat.eq_zero_or_pos l0.length with hz | hp
  ·obtain rfl := List.length_eq_zero_iff.mp hz
   refine (Tryd.strings_Join_none A0 c0 a1 w).mono ?_
   rintro e w' ⟨rfl, rfl⟩
   exact ⟨rfl, Below.refl _ _⟩
  ·obtain ⟨bk, o, rfl, hlt, hcells⟩ := join_at hr0 hp
   exact Tryd.strings_Join bk o c0 l0 a1 w hcells hlt (by omega) hc0 (by omega)
 ·cases h
/-! ### strings_Builder_copyCheck: function 31 -/
theorem bld_size : ∃ j, Tryd.prog.info? 48 = some j ∧ j.size = 2 := by
 have h : (Tryd.prog.info? 48).map (·.size) = some 2 := by kernel_rfl
 obtain ⟨j, hj, hs⟩ := Option.map_eq_some_iff.1 h
 exact ⟨j, hj, hs⟩
theorem bld_byte : ∃ j, Tryd.prog.info? 5 = some j ∧ j.zero = some (.int .u8 0) ∧ j.size = 1 ∧ j.bytes = 1 := by
 have h : (Tryd.prog.info? 5).map (fun i => (i.zero, i.size, i.bytes)) = some (some (.int .u8 0), 1, 1) := by kernel_rfl
 obtain ⟨j, hj, hs⟩ := Option.map_eq_some_iff.1 h
 simp only [Prod.mk.injEq] at hs
 exact ⟨j, hj, hs.1, hs.2.1, hs.2.2⟩
set_option maxHeartbeats 2000000 in
set_option maxRecDepth 100000 in
theorem bld_check (B b : Nat) (bs : List Value) (w : World) (h : Lib.IsBuilder 48 5 B b bs w) :
  Calls Tryd.prog 31 #[.pointer (some ⟨b, 0, none⟩)] w fun e w' => e = .returned (.tuple #[]) ∧ Lib.BuilderAt 48 5 B b (.pointer (some ⟨b, 0, none⟩)) bs w' ∧ Below B w w' := by
 obtain ⟨j, hj, hs⟩ := bld_size
 rcases h with h | h
 ·have c0 := h.cell0
  have z0 := h.frozen0
  have hto := Lib.run_to_unsafe (P := Tryd.prog) w ⟨b, 0, none⟩ Tryd.underlying45 Tryd.underlying75 hj (by rw [hs]; decide) h.shape (Nat.zero_lt_succ 1)
  have hfrom := Lib.run_from_unsafe (P := Tryd.prog) w ⟨b, 0, none⟩ Tryd.underlying75 Tryd.underlying45 hj h.shape (by kernel_rfl)
  have HB := Aside0.mk h
  clear h
  go_enter Tryd.func31, Tryd.ntmps31
  go_wp2
  rw [run_callFunc_extern Tryd.func40 (by kernel_rfl) (by kernel_rfl) (by kernel_rfl) (e := Extern.AbiNoEscape.same) (by kernel_rfl), Lib.run_noEscape]
  simp only [Result.andThen]
  rw [Oper.upon_value]
  go_wp2
  go_end0
  exact ⟨rfl, HB.out.used _, (Below.refl B w).setCell (p := ⟨b, 0, none⟩) HB.out.1 _⟩
 ·have c0 := h.cell0
  have hne := Lib.run_neq_ptr_same (P := Tryd.prog) w ⟨b, 0, none⟩ Tryd.underlying45 hj
  have HB := Aside0.mk h
  clear h
  go_enter Tryd.func31, Tryd.ntmps31
  go_wp2
  go_end0
  exact ⟨rfl, HB.out, Below.refl B _⟩
theorem bld_cells {B b : Nat} {bs : List Value} {w : World} (h : Lib.BuilderAt 48 5 B b (.pointer (some ⟨b, 0, none⟩)) bs w) :
  ∃ v, w.heap[b]? = some (.cells #[.pointer (some ⟨b, 0, none⟩), v] 48 (0, 0)) ∧ w.ownsRow B 5 1 v bs.length bs ∧ v.ownBlock ≠ some b ∧ B ≤ b := by
 obtain ⟨hB, v, hb, ho, hn⟩ := h
 exact ⟨v, hb, ho, hn, hB⟩
theorem bld_slice {w : World} {B n : Nat} {v : Value} {xs : List Value} (h : w.ownsRow B 5 1 v n xs) : ∃ A m c, v = .slice A m c := by
 rcases h.2 with ⟨hv, _⟩ | ⟨g, cap, cur, hv, _⟩
 ·exact ⟨_, _, _, hv⟩
 ·exact ⟨_, _, _, hv⟩
set_option maxHeartbeats 4000000 in
set_option maxRecDepth 100000 in
theorem bld_text (B b : Nat) (bs : List Value) (s : ByteArray) (w : World) (h : Lib.IsBuilder 48 5 B b bs w) (hl : bs.length + s.size ≤ 140737488355328) (hw : B ≤ w.heap.size) :
  Calls Tryd.prog 20 #[.pointer (some ⟨b, 0, none⟩), .string s] w fun e w' => e = .returned (.tuple #[.int .i64 s.size, .nilIface]) ∧ Lib.BuilderAt 48 5 B b (.pointer (some ⟨b, 0, none⟩)) (bs ++ Lib.strCells s) w' ∧ Below B w w' := by
 obtain ⟨i, hi, hi0, hi1, hi2⟩ := bld_byte
 go_enter Tryd.func20, Tryd.ntmps20
 go_wp2_with (go_at_call 31; refine (bld_check B b bs _ h).mono ?_)
 rintro e w1 ⟨rfl, h1, hb1⟩
 obtain ⟨v, hg, ho, hn, hB⟩ := bld_cells h1
 have q0 := (blk_cell hg 0).trans rfl
 have q1 := (blk_cell hg 1).trans rfl
 have hsz := hb1.size
 go_wp2_with (at_builtin; refine Lib.wpList_append_own_string _ rfl _ _ 46 9 rfl B 5 i Tryd.underlying46 Tryd.underlying9 hi hi0 hi1 hi2 _ _ _ rfl ho s rfl ?cm ?cl ?cb ?_)
 case cm => unfold maxLen; omega
 case cl => omega
 case cb => omega
 intro v2 w2 ho2 hgr _
 have hg2 : w2.heap[b]? = some (.cells #[.pointer (some ⟨b, 0, none⟩), v] 48 (0, 0)) := (hgr.block b (blk_lt hg) (fun e => hn e.symm)).trans hg
 have p1 := (blk_cell hg2 1).trans rfl
 have f1 := blk_frozen hg2 1
 obtain ⟨A2, n2, c2, rfl⟩ := bld_slice ho2
 go_wp2
 go_ret2
 refine ⟨rfl, Lib.BuilderAt.put hB hg2 (bs' := bs ++ Lib.strCells s) (by simpa [Lib.strCells_length] using ho2) (by decide), ?_⟩
 exact (hb1.grown hgr (by omega) (fun k hk => (ho.lt k hk).1)).setCell (p := ⟨b, 1, none⟩) hB _
set_option maxHeartbeats 4000000 in
set_option maxRecDepth 100000 in
theorem bld_one (B b : Nat) (bs : List Value) (c : Int) (w : World) (h : Lib.IsBuilder 48 5 B b bs w) (hl : bs.length + 1 ≤ 140737488355328) (hw : B ≤ w.heap.size) :
  Calls Tryd.prog 39 #[.pointer (some ⟨b, 0, none⟩), .int .u8 c] w fun e w' => e = .returned .nilIface ∧ Lib.BuilderAt 48 5 B b (.pointer (some ⟨b, 0, none⟩)) (bs ++ [.int .u8 c]) w' ∧ Below B w w' := by
 obtain ⟨i, hi, hi0, hi1, hi2⟩ := bld_byte
 go_enter Tryd.func39, Tryd.ntmps39
 go_wp2_with (go_at_call 31; refine (bld_check B b bs _ h).mono ?_)
 rintro e w1 ⟨rfl, h1, hb1⟩
 obtain ⟨v, hg, ho, hn, hB⟩ := bld_cells h1
 have q0 := (blk_cell hg 0).trans rfl
 have q1 := (blk_cell hg 1).trans rfl
 have hsz := hb1.size
 go_wp2_with (at_builtin; refine wpList_append_own _ rfl _ _ 46 rfl B 5 i (.int .u8 0) 1 1 Tryd.underlying46 hi hi0 hi1 hi2 rfl (by decide) _ _ _ rfl (ho.alloc _) ⟨w1.heap.size, 0, none⟩ 1 1 [.int .u8 c] rfl rfl ?ca ?co ?cm ?cl ?cb ?_)
 case ca =>
  intro j u hj
  cases j with
  | zero =>
   obtain rfl := Option.some.inj hj
   exact (blk_cell (heap_alloc_new w1 (.cells #[.int .u8 c] 5)) 0).trans rfl
  | succ j => cases hj
 case co =>
  intro u hu
  rcases List.mem_singleton.1 hu with rfl
  rfl
 case cm => unfold maxLen; omega
 case cl => omega
 case cb => simp; omega
 intro v2 w2 ho2 hgr _
 have hg2 : w2.heap[b]? = some (.cells #[.pointer (some ⟨b, 0, none⟩), v] 48 (0, 0)) := (hgr.block b (by have := blk_lt hg; simp; omega) (fun e => hn e.symm)).trans (blk_alloc hg _)
 have p1 := (blk_cell hg2 1).trans rfl
 have f1 := blk_frozen hg2 1
 obtain ⟨A2, n2, c2, rfl⟩ := bld_slice ho2
 go_wp2
 go_ret
 refine ⟨rfl, Lib.BuilderAt.put hB hg2 (bs' := bs ++ [.int .u8 c]) (by simpa using ho2) (by decide), ?_⟩
 exact ((hb1.alloc (by omega) _).grown hgr (by simp; omega) (fun k hk => (ho.lt k hk).1)).setCell (p := ⟨b, 1, none⟩) hB _
theorem bl2_grown (W : World) (b j : Nat) (v : Value) : W.grownBy (W.setCell ⟨b, j, none⟩ v) (some b) :=
 ⟨rfl, rfl, rfl, (KeepsWalks.setCell W _ v).size, fun k _ hk => Below.heap_setCell _ _ _ k (fun e => hk (by rw [e]))⟩
set_option maxHeartbeats 2000000 in
set_option maxRecDepth 100000 in
theorem bl2_check (B b : Nat) (bs : List Value) (p v : Value) (w : World) (hb : w.heap[b]? = some (.cells #[p, v] 48 (0, 0))) (hp : p = .pointer none ∨ p = .pointer (some ⟨b, 0, none⟩)) (ho : w.ownsRow B 5 1 v bs.length bs) (hbB : b < B) :
  Calls Tryd.prog 31 #[.pointer (some ⟨b, 0, none⟩)] w fun e w' => e = .returned (.tuple #[]) ∧ (w' = w ∨ w' = w.setCell ⟨b, 0, none⟩ (.pointer (some ⟨b, 0, none⟩))) ∧ w'.heap[b]? = some (.cells #[.pointer (some ⟨b, 0, none⟩), v] 48 (0, 0)) := by
 obtain ⟨j, hj, hs⟩ := bld_size
 have hne : v.ownBlock ≠ some b := fun e => by have := own_base ho b e; omega
 have h : Lib.BuilderAt 48 5 0 b p bs w := ⟨Nat.zero_le _, v, hb, own_weaken ho (Nat.zero_le _), hne⟩
 have KB := Aside0.mk hb
 rcases hp with rfl | rfl
 ·have c0 := h.cell0
  have z0 := h.frozen0
  have hto := Lib.run_to_unsafe (P := Tryd.prog) w ⟨b, 0, none⟩ Tryd.underlying45 Tryd.underlying75 hj (by rw [hs]; decide) h.shape (Nat.zero_lt_succ 1)
  have hfrom := Lib.run_from_unsafe (P := Tryd.prog) w ⟨b, 0, none⟩ Tryd.underlying75 Tryd.underlying45 hj h.shape (by kernel_rfl)
  clear h hb ho hne
  go_enter Tryd.func31, Tryd.ntmps31
  go_wp2
  rw [run_callFunc_extern Tryd.func40 (by kernel_rfl) (by kernel_rfl) (by kernel_rfl) (e := Extern.AbiNoEscape.same) (by kernel_rfl), Lib.run_noEscape]
  simp only [Result.andThen]
  rw [Oper.upon_value]
  go_wp2
  go_end0
  exact ⟨rfl, .inr rfl, blk_put KB.out 0 _ rfl⟩
 ·have c0 := h.cell0
  have hne2 := Lib.run_neq_ptr_same (P := Tryd.prog) w ⟨b, 0, none⟩ Tryd.underlying45 hj
  clear h hb ho hne
  go_enter Tryd.func31, Tryd.ntmps31
  go_wp2
  go_end0
  exact ⟨rfl, .inl rfl, KB.out⟩
set_option maxHeartbeats 4000000 in
set_option maxRecDepth 100000 in
/-- A builder at b whose bytes lie behind B: a text is written; all but the builder and its bytes stays. -/
theorem bl2_text (B b : Nat) (bs : List Value) (s : ByteArray) (p v : Value) (w : World) (hb : w.heap[b]? = some (.cells #[p, v] 48 (0, 0))) (hp : p = .pointer none ∨ p = .pointer (some ⟨b, 0, none⟩)) (ho : w.ownsRow B 5 1 v bs.length bs) (hbB : b < B) (hl : bs.length + s.size ≤ 140737488355328) (hw : B ≤ w.heap.size) :
  Calls Tryd.prog 20 #[.pointer (some ⟨b, 0, none⟩), .string s] w fun e w' => e = .returned (.tuple #[.int .i64 s.size, .nilIface]) ∧ ∃ v', w'.heap[b]? = some (.cells #[.pointer (some ⟨b, 0, none⟩), v'] 48 (0, 0)) ∧ w'.ownsRow B 5 1 v' (bs ++ Lib.strCells s).length (bs ++ Lib.strCells s) ∧ Below b w w' ∧ ∀ k, k < w.heap.size → k ≠ b → some k ≠ v.ownBlock → w'.heap[k]? = w.heap[k]? := by
 obtain ⟨i, hi, hi0, hi1, hi2⟩ := bld_byte
 have hn : v.ownBlock ≠ some b := fun e => by have := own_base ho b e; omega
 go_enter Tryd.func20, Tryd.ntmps20
 go_wp2_with (go_at_call 31; refine (bl2_check B b bs p v _ hb hp ho hbB).mono ?_)
 rintro e w1 ⟨rfl, hw1, hg⟩
 have hsz : w1.heap.size = w.heap.size := by rcases hw1 with rfl | rfl; rfl; simp
 have hk1 : ∀ k, k ≠ b → w1.heap[k]? = w.heap[k]? := by
  intro k hk
  rcases hw1 with rfl | rfl
  ·rfl
  ·exact Below.heap_setCell _ _ _ k hk
 have hb1 : Below b w w1 := by
  rcases hw1 with rfl | rfl
  ·exact Below.refl _ _
  ·exact (Below.refl b w).setCell (p := ⟨b, 0, none⟩) (Nat.le_refl _) _
 have ho1 : w1.ownsRow B 5 1 v bs.length bs := by
  rcases hw1 with rfl | rfl
  ·exact ho
  ·exact ho.kept (bl2_grown w b _ _) (.inr (fun e => hn e))
 clear hw1
 have q0 := (blk_cell hg 0).trans rfl
 have q1 := (blk_cell hg 1).trans rfl
 go_wp2_with (at_builtin; refine Lib.wpList_append_own_string _ rfl _ _ 46 9 rfl B 5 i Tryd.underlying46 Tryd.underlying9 hi hi0 hi1 hi2 _ _ _ rfl ho1 s rfl ?cm ?cl ?cb ?_)
 case cm => unfold maxLen; omega
 case cl => omega
 case cb => omega
 intro v2 w2 ho2 hgr _
 have hg2 : w2.heap[b]? = some (.cells #[.pointer (some ⟨b, 0, none⟩), v] 48 (0, 0)) := (hgr.block b (blk_lt hg) (fun e => hn e.symm)).trans hg
 have p1 := (blk_cell hg2 1).trans rfl
 have f1 := blk_frozen hg2 1
 obtain ⟨A2, n2, c2, rfl⟩ := bld_slice ho2
 go_wp2
 go_ret2
 have hn2 : (Value.slice A2 n2 c2).ownBlock ≠ some b := fun e => by have := own_base ho2 b e; omega
 have hlen : (bs ++ Lib.strCells s).length = bs.length + s.size := by rw [List.length_append, Lib.strCells_length]
 refine ⟨rfl, _, blk_put hg2 1 _ rfl, ?_, ?_, ?_⟩
 ·rw [hlen]
  exact ho2.kept (bl2_grown w2 b _ _) (.inr (fun e => hn2 e))
 ·exact (hb1.grown hgr (by omega) (fun k hk => by have := own_base ho k hk; omega)).setCell (p := ⟨b, 1, none⟩) (Nat.le_refl _) _
 ·intro k hk1' hk2 hk3
  exact (Below.heap_setCell _ _ _ k hk2).trans ((hgr.block k (by omega) hk3).trans (hk1 k hk2))
/-! ### stringslite_HasSuffix: function 49 -/
def stringslite_HasSuffix.f (a0 : ByteArray) (a1 : ByteArray) : Option (Bool) := if (a0.size : Int) ≥ (a1.size : Int) then (if 0 ≤ (wrap64 ((a0.size : Int) - (a1.size : Int))) then (if (wrap64 ((a0.size : Int) - (a1.size : Int))) ≤ (a0.size : Int) then (some ((a0.extract ((wrap64 ((a0.size : Int) - (a1.size : Int))) : Int).toNat a0.size).toList == a1.toList)) else (none)) else (none)) else (some false)
set_option maxHeartbeats 8000000 in
set_option maxRecDepth 100000 in
theorem stringslite_HasSuffix.calls (a0 : ByteArray) (a1 : ByteArray) (r : Bool) (w : World) (h : stringslite_HasSuffix.f a0 a1 = some r) :
  Calls Tryd.prog 49 #[.string a0, .string a1] w fun e w' => e = .returned (.bool r) ∧ Drawn0 w w' := by
 have H : (if (a0.size : Int) ≥ (a1.size : Int) then (if 0 ≤ (wrap64 ((a0.size : Int) - (a1.size : Int))) then (if (wrap64 ((a0.size : Int) - (a1.size : Int))) ≤ (a0.size : Int) then (some ((a0.extract ((wrap64 ((a0.size : Int) - (a1.size : Int))) : Int).toNat a0.size).toList == a1.toList)) else (none)) else (none)) else (some false)) = some r := h
 clear h
 by_cases c3 : (a0.size : Int) ≥ (a1.size : Int)
 ·rw [if_pos c3] at H
  have c3b0 : decide ((a1.size : Int) ≤ (a0.size : Int)) = true := decide_eq_true c3
  have c3b1 : decide (a1.size ≤ a0.size) = true := decide_eq_true (Int.ofNat_le.mp c3)
  clear c3
  obtain ⟨ji4, hji4⟩ : ∃ j_ : Int, (wrap64 ((a0.size : Int) - (a1.size : Int))) = j_ := ⟨_, rfl⟩
  replace H : (if 0 ≤ (ji4) then (if (ji4) ≤ (a0.size : Int) then (some ((a0.extract ((ji4) : Int).toNat a0.size).toList == a1.toList)) else (none)) else (none)) = some r := by first | (rw [hji4] at H; exact H) | (simp only [hji4] at H ⊢; exact H)
  have hji4w : (IntKind.i64.wrap ((a0.size : Int) - (a1.size : Int))) = ji4 := (i64_w _).trans hji4
  by_cases c5 : 0 ≤ (ji4)
  ·rw [if_pos c5] at H
   have c5b0 := eq_true c5
   have c5b1 : decide (0 ≤ (ji4)) = true := decide_eq_true c5
   clear c5
   by_cases c6 : (ji4) ≤ (a0.size : Int)
   ·rw [if_pos c6] at H
    have c6b0 := eq_true c6
    have c6b1 : decide ((ji4) ≤ (a0.size : Int)) = true := decide_eq_true c6
    clear c6
    obtain rfl := Option.some.inj H
    go_enter Tryd.func49, Tryd.ntmps49
    go_wp2
    go_ret
    exact ⟨by first | rfl | (simp; done) | (simp only [← hji4] <;> (first | rfl | simp)) | (simp [*]; done), by repeat (first | exact Drawn0.refl _ | apply Drawn0.step)⟩
   ·rw [if_neg c6] at H
    exact absurd H (by simp)
  ·rw [if_neg c5] at H
   exact absurd H (by simp)
 ·rw [if_neg c3] at H
  have c3b0 : decide ((a1.size : Int) ≤ (a0.size : Int)) = false := decide_eq_false c3
  have c3b1 : decide (a1.size ≤ a0.size) = false := decide_eq_false (fun h => c3 (Int.ofNat_le.mpr h))
  clear c3
  obtain rfl := Option.some.inj H
  go_enter Tryd.func49, Tryd.ntmps49
  go_wp2
  go_ret
  exact ⟨by first | rfl | (simp; done) | (simp [*]; done), by repeat (first | exact Drawn0.refl _ | apply Drawn0.step)⟩
/-! ### strings_HasSuffix: function 38 -/
def strings_HasSuffix.f (a0 : ByteArray) (a1 : ByteArray) : Option (Bool) := (stringslite_HasSuffix.f a0 a1).bind fun t120 => (some t120)
set_option maxHeartbeats 8000000 in
set_option maxRecDepth 100000 in
theorem strings_HasSuffix.calls (a0 : ByteArray) (a1 : ByteArray) (r : Bool) (w : World) (h : strings_HasSuffix.f a0 a1 = some r) :
  Calls Tryd.prog 38 #[.string a0, .string a1] w fun e w' => e = .returned (.bool r) ∧ Drawn0 w w' := by
 have H : ((stringslite_HasSuffix.f a0 a1).bind fun t120 => (some t120)) = some r := h
 clear h
 replace H := Option.bind_eq_some_iff.mp H
 obtain ⟨t120, A30, H⟩ := H
 replace H : (some t120) = some r := H
 have A3 := Aside0.mk A30
 clear A30
 obtain rfl := Option.some.inj H
 go_enter Tryd.func38, Tryd.ntmps38
 go_wp2_with (first | ((with_reducible refine gate_callee (f := 49) rfl ?_); refine goesL_ (some 7) rfl rfl Tryd.func49 (by kernel_rfl) rfl #[.string a0, .string a1] rfl (by (try simp only [List.map_toArray, List.map_cons, List.map_nil]); first | done | rfl | (simp only [List.length_drop, List.length_take]; rfl)) ?_; (with_reducible refine (stringslite_HasSuffix.calls a0 a1 t120 _ A3.out).mono ?_); rintro e w' ⟨rfl, ⟨nd, rfl⟩⟩; refine ⟨_, rfl, ?_⟩))
 go_ret
 exact ⟨by first | rfl | (simp; done) | (simp [*]; done), by repeat (first | exact Drawn0.refl _ | apply Drawn0.step)⟩
end Go.Proofs.YtkbhnkagiaghnaaDoor.P
