-- Laid by a program of this session (wip/tools/fork_print.py over the kit's print) out of Lean's print of the translation. Lean checks it.
import Derived.Test.YtinoidkmobmcpaaPx0
import Derived.LoopIn
import Derived.LoopNIn
import Derived.OwnWalkIn
import Derived.RangeFuncBound
import Derived.RangeFuncCalls
import Derived.RangeFuncLeaves
import Derived.RangeFuncNested
import Derived.Shelf.Abstract
import Derived.Shelf.RegionOpen
import Derived.TacticsInMore
import Derived.Test.YtinoidkmobmcpaaRangeSeq
import Derived.WalkKit
import Derived.Test.YtinoidkmobmcpaaPx3
namespace Go.Proofs.Ytinoidkmobmcpaa.P
open Go.RowKit Go.Proofs.YtinoidkmobmcpaaW.PrintWords Go.Proofs.YtinoidkmobmcpaaW.PrintLast Go.Proofs.YtinoidkmobmcpaaW.PrintMore
attribute [local go_sem] max2_int min2_int max_two min_two max_three min_three max_four min_four   -- for this text's walks alone
set_option linter.unusedVariables false
set_option linter.unusedSimpArgs false

/-! ### scan_Run: function 9 -/
-- NEEDS stylus/scan.padding stylus/frame.One
-- IMPORT Derived.RangeFuncNested
-- IMPORT Derived.RangeFuncBound
-- IMPORT Derived.RangeFuncCalls
-- IMPORT Derived.RangeFuncLeaves
-- IMPORT Derived.Shelf.Abstract
-- IMPORT Derived.Shelf.RegionOpen
-- IMPORT Derived.WalkKit
-- IMPORT Derived.OwnWalkIn
-- IMPORT Derived.TacticsInMore
-- IMPORT Derived.LoopNIn
-- IMPORT Derived.LoopIn
-- IMPORT Derived.Test.YtinoidkmobmcpaaRangeSeq
-- a range over a function whose iterator writes a cell of its own between two rounds (RangeSeq)
attribute [local go_sem] Oper.semAt_some
abbrev scan_Fnd := Bool × S39 × Int
def scan_encs (x : scan_Fnd) : Array Value := #[.bool x.1, .agg #[.int .i64 x.2.1.f0, .int .i64 x.2.1.f1, .string x.2.1.f2, .int .i64 x.2.2]]
/-- What the iterator hands on, from a number and a place on. -/
def scan_frames.go (pad : Nat → ByteArray → Int → Option (Int × Bool)) : Nat → ByteArray → Int → Int → Int → Option (List scan_Fnd)
  | 0, _, _, _, _ => none
  | k + 1, s, ep, sq, at_ => if 0 ≤ at_ ∧ at_ ≤ (s.size : Int) then ((frame_One.f k (s.extract at_.toNat s.size)).bind fun o =>
      (if o.2.2.2.2 = 0 ∧ o.1 = ep ∧ o.2.1 = sq then ((scan_frames.go pad k s ep (wrap64 (sq + 1)) (wrap64 (at_ + o.2.2.2.1))).map fun l => (true, (⟨o.1, o.2.1, o.2.2.1⟩ : S39), wrap64 (at_ + o.2.2.2.1)) :: l)
       else ((pad k s at_).bind fun p => if p.2 = true then (scan_frames.go pad k s ep sq p.1) else (some [(false, (⟨0, 0, ⟨#[]⟩⟩ : S39), at_)])))) else none
def scan_Kp (b1 b2 b3 : Nat) (W W' : World) : Prop := W'.heap[b1]? = W.heap[b1]? ∧ W'.heap[b2]? = W.heap[b2]? ∧ W'.heap[b3]? = W.heap[b3]?
theorem blk_below' {w W : World} {g : Nat} {o : Obj} (h : w.heap[g]? = some o) (hb : Below w.heap.size w W) : W.heap[g]? = some o := (hb.block g (blk_lt h)).trans h
set_option maxHeartbeats 8000000 in
set_option maxRecDepth 100000 in
theorem scan_frames.gives (pad : Nat → ByteArray → Int → Option (Int × Bool))
    (hpad : ∀ (k : Nat) (s : ByteArray) (at_ p : Int) (ok : Bool) (w : World), pad k s at_ = some (p, ok) → Calls Try.prog 30 #[.string s, .int .i64 at_] w fun e w' => e = .returned (.tuple #[.int .i64 p, .bool ok]) ∧ Below w.heap.size w w')
    (k : Nat) (s : ByteArray) (ep sq : Int) (xs : List scan_Fnd) (w : World) (b1 b2 b3 : Nat) (h13 : b1 ≠ b3) (h23 : b2 ≠ b3)
    (hb1 : w.heap[b1]? = some (.cells #[.string s] 9 (0, 0))) (hb2 : w.heap[b2]? = some (.cells #[.int .i64 ep] 3 (0, 0))) (hb3 : w.heap[b3]? = some (.cells #[.int .i64 sq] 3 (0, 0)))
    (h : scan_frames.go pad k s ep sq 0 = some xs) :
    RangeSeq.Gives Fence.wide 2 Try.prog 29 #[.pointer (some ⟨b1, 0, none⟩), .pointer (some ⟨b2, 0, none⟩), .pointer (some ⟨b3, 0, none⟩)] scan_encs (scan_Kp b1 b2 b3) b3 xs w := by
  intro l J W hW hJ hY h0
  have e1 := blk_below' hb1 hW
  have e2 := blk_below' hb2 hW
  have e3 := blk_below' hb3 hW
  have hu39 := Try.underlying39
  refine callsIn_of_wp Try.func29 rfl trivial ?_ rfl
  simp only [Try.ntmps29, List.size_toArray, List.length_cons, List.length_nil, Nat.reduceAdd, Nat.reduceSub, Array.replicate_succ, Array.replicate_zero, List.push_toArray, List.append_toArray, List.nil_append, List.cons_append]
  refine wpIn_wide.2 (wp_scope_straight ((wpIn_wide (n := 2)).1 ?_))
  gi_wp2_with fail
  refine wpIn_label ?_
  simp only [Exit.then]
  rename_i K hK
  refine hK _ _ ?_
  clear hK K
  gi_wp2_with fail
  refine wpIn_wide.2 ?_
  go_loopg [5] k (fun kq v5 wr => ∃ (at_ sq' : Int) (pre ys : List scan_Fnd), v5 = .int .i64 at_ ∧ Aside0 (scan_frames.go pad kq s ep sq' at_ = some ys) ∧ Aside0 (xs = pre ++ ys) ∧ Aside0 (J pre wr) ∧ Aside0 (wr.heap[b1]? = some (.cells #[.string s] 9 (0, 0))) ∧ Aside0 (wr.heap[b2]? = some (.cells #[.int .i64 ep] 3 (0, 0))) ∧ Aside0 (wr.heap[b3]? = some (.cells #[.int .i64 sq'] 3 (0, 0))))
  case atStart =>
    exact ⟨0, sq, [], xs, rfl, ⟨h⟩, ⟨rfl⟩, ⟨h0⟩, ⟨e1⟩, ⟨e2⟩, ⟨e3⟩⟩
  case round =>
    obtain ⟨at_, sq', pre, ys, rfl, HG, HX, HJ, E1, E2, E3⟩ := hrel
    cases gk with
    | zero => exact absurd HG.out (by simp [scan_frames.go])
    | succ k1 =>
      have H := HG.out
      clear HG
      unfold scan_frames.go at H
      by_cases c1 : 0 ≤ at_ ∧ at_ ≤ (s.size : Int)
      rotate_left
      · rw [if_neg c1] at H
        cases H
      rw [if_pos c1] at H
      have p1 : (0 ≤ at_) = True := eq_true c1.1
      have p2 : (at_ ≤ (s.size : Int)) = True := eq_true c1.2
      replace H := Option.bind_eq_some_iff.mp H
      obtain ⟨⟨o1, o2, o3, o4, o5⟩, A1, H⟩ := H
      simp only at H
      have HA1 := Aside0.mk A1
      have q1 : wr.cell? ⟨b1, 0, none⟩ = some (.string s) := (blk_cell E1.out 0).trans rfl
      clear A1 c1
      by_cases c2 : o5 = 0 ∧ o1 = ep ∧ o2 = sq'
      · rw [if_pos c2] at H
        obtain ⟨rfl, rfl, rfl⟩ := c2
        obtain ⟨ys', HG', rfl⟩ := Option.map_eq_some_iff.mp H
        have HG2 := Aside0.mk HG'
        clear H HG'
        go_upto_region 5 with (go_at_call 25; (with_reducible refine (frame_One.calls k1 _ _ _ _ _ _ _ HA1.out).mono ?_); rintro e w3 ⟨rfl, hb3⟩; have F1 := Aside0.mk (blk_alloc (blk_below E1.out hb3) (.cells #[.int .i64 o1, .int .i64 o2, .string o3] 39)); have F2 := Aside0.mk (blk_alloc (blk_below E2.out hb3) (.cells #[.int .i64 o1, .int .i64 o2, .string o3] 39)); have F3 := Aside0.mk (blk_alloc (blk_below E3.out hb3) (.cells #[.int .i64 o1, .int .i64 o2, .string o3] 39)); have g2 := (blk_cell F2.out 0).trans rfl; have g3 := (blk_cell F3.out 0).trans rfl; have f3 := blk_frozen F3.out 0; have HB3 := Aside0.mk hb3; clear hb3)
        have hlt3 : b3 < w3.heap.size := by
          have := blk_lt E3.out
          have := HB3.out.size
          omega
        have hJ3 := hJ _ _ _ (hJ _ _ _ HJ.out (.inl (grown_of_below HB3.out none))) (.inl (World.grownBy_alloc w3 (.cells #[.int .i64 o1, .int .i64 o2, .string o3] 39) none))
        have hJn := hJ _ _ _ hJ3 (.inr (grownBy_setCell' (w3.alloc (.cells #[.int .i64 o1, .int .i64 o2, .string o3] 39)) b3 (.int .i64 (wrap64 (o2 + 1)))))
        have n1 := blk_far F1.out (p := ⟨b3, 0, none⟩) h13 (.int .i64 (wrap64 (o2 + 1)))
        have n2 := blk_far F2.out (p := ⟨b3, 0, none⟩) h23 (.int .i64 (wrap64 (o2 + 1)))
        have n3 := blk_put (cs' := #[.int .i64 (wrap64 (o2 + 1))]) F3.out 0 (.int .i64 (wrap64 (o2 + 1))) rfl
        have n6 := blk_far (heap_alloc_new w3 (.cells #[.int .i64 o1, .int .i64 o2, .string o3] 39)) (p := ⟨b3, 0, none⟩) (Nat.ne_of_gt hlt3) (.int .i64 (wrap64 (o2 + 1)))
        generalize (w3.alloc (.cells #[.int .i64 o1, .int .i64 o2, .string o3] 39)).setCell ⟨b3, 0, none⟩ (.int .i64 (wrap64 (o2 + 1))) = Wn at hJn n1 n2 n3 n6 ⊢
        obtain ⟨fn, tmps, assign, body, hy, hR⟩ := hY pre (true, ⟨o1, o2, o3⟩, wrap64 (at_ + o4)) Wn hJn (by rw [HX.out]; simp)
        simp only [scan_encs] at hy
        have c60 := (blk_cell n6 0).trans rfl
        have c61 := (blk_cell n6 1).trans rfl
        have c62 := (blk_cell n6 2).trans rfl
        have N1 := Aside0.mk n1
        have N2 := Aside0.mk n2
        have N3 := Aside0.mk n3
        clear n1 n2 n3 n6 hJn hJ3 hlt3 g2 g3 f3 q1 p1 p2
        go_cut [43] (fun v43 wx => v43 = .bool false ∧ Aside0 (J (pre ++ [(true, ⟨o1, o2, o3⟩, wrap64 (at_ + o4))]) wx) ∧ Aside0 (wx.heap[b1]? = some (.cells #[.string s] 9 (0, 0))) ∧ Aside0 (wx.heap[b2]? = some (.cells #[.int .i64 o1] 3 (0, 0))) ∧ Aside0 (wx.heap[b3]? = some (.cells #[.int .i64 (wrap64 (o2 + 1))] 3 (0, 0))))
        case first =>
          refine (wpIn_wide (n := 2)).1 ?_
          gi_wp2_with fail
          refine hR.mono ?_
          rintro e W' ⟨rfl, hJ', hk⟩
          gi_wp2_with fail
          go_meet
          exact ⟨rfl, ⟨hJ'⟩, ⟨hk.1.trans N1.out⟩, ⟨hk.2.1.trans N2.out⟩, ⟨hk.2.2.trans N3.out⟩⟩
        obtain ⟨rfl, HJ2, M1, M2, M3⟩ := hcut
        clear hR hy N1 N2 N3 c60 c61 c62
        go_wp2_with fail
        go_roundg k1
        case measure => omega
        case rel => exact ⟨wrap64 (at_ + o4), wrap64 (o2 + 1), pre ++ [(true, ⟨o1, o2, o3⟩, wrap64 (at_ + o4))], ys', rfl, HG2, ⟨by rw [HX.out, List.append_assoc]; rfl⟩, HJ2, M1, M2, M3⟩
      · rw [if_neg c2] at H
        replace H := Option.bind_eq_some_iff.mp H
        obtain ⟨⟨p, ok⟩, A2, H⟩ := H
        simp only at H
        have HA2 := Aside0.mk A2
        have HH := Aside0.mk H
        clear A2 H
        go_upto_region 2 with (go_at_call 25; (with_reducible refine (frame_One.calls k1 _ _ _ _ _ _ _ HA1.out).mono ?_); rintro e w3 ⟨rfl, hb3⟩; have F1 := Aside0.mk (blk_alloc (blk_below E1.out hb3) (.cells #[.int .i64 o1, .int .i64 o2, .string o3] 39)); have F2 := Aside0.mk (blk_alloc (blk_below E2.out hb3) (.cells #[.int .i64 o1, .int .i64 o2, .string o3] 39)); have F3 := Aside0.mk (blk_alloc (blk_below E3.out hb3) (.cells #[.int .i64 o1, .int .i64 o2, .string o3] 39)); have g2 := (blk_cell F2.out 0).trans rfl; have g3 := (blk_cell F3.out 0).trans rfl; have f3 := blk_frozen F3.out 0; have HB3 := Aside0.mk hb3; clear hb3)
        have hJ3 := hJ _ _ _ (hJ _ _ _ HJ.out (.inl (grown_of_below HB3.out none))) (.inl (World.grownBy_alloc w3 (.cells #[.int .i64 o1, .int .i64 o2, .string o3] 39) none))
        have HJ3 := Aside0.mk hJ3
        clear hJ3 q1 p1 p2
        go_cut [32] (fun v32 wx => v32 = .bool false ∧ Aside0 (J pre wx) ∧ Aside0 (wx.heap[b1]? = some (.cells #[.string s] 9 (0, 0))) ∧ Aside0 (wx.heap[b2]? = some (.cells #[.int .i64 ep] 3 (0, 0))) ∧ Aside0 (wx.heap[b3]? = some (.cells #[.int .i64 sq'] 3 (0, 0))))
        case first =>
          by_cases d1 : o5 = 0
          · have d1b : (o5 == 0) = true := beq_iff_eq.mpr d1
            by_cases d2 : o1 = ep
            · have d2b : (o1 == ep) = true := beq_iff_eq.mpr d2
              have d3b : (o2 == sq') = false := beq_eq_false_iff_ne.mpr (fun z => c2 ⟨d1, d2, z⟩)
              clear d1 d2 c2
              go_wp2_with fail
              go_meet
              exact ⟨rfl, HJ3, F1, F2, F3⟩
            · have d2b : (o1 == ep) = false := beq_eq_false_iff_ne.mpr d2
              clear d1 d2 c2
              go_wp2_with fail
              go_meet
              exact ⟨rfl, HJ3, F1, F2, F3⟩
          · have d1b : (o5 == 0) = false := beq_eq_false_iff_ne.mpr d1
            clear d1 c2
            go_wp2_with fail
            go_meet
            exact ⟨rfl, HJ3, F1, F2, F3⟩
        clear g2 g3 f3 F1 F2 F3 HJ3 c2
        obtain ⟨rfl, HJ2, M1, M2, M3⟩ := hcut
        have q1 := (blk_cell M1.out 0).trans rfl
        have h := HH.out
        clear HH
        cases ok with
        | true =>
          rw [if_pos rfl] at h
          have HG2 := Aside0.mk h
          clear h
          go_wp2_with (go_at_call 30; (with_reducible refine (hpad k1 s at_ p true _ HA2.out).mono ?_); rintro e w4 ⟨rfl, hb4⟩)
          go_roundg k1
          case measure => omega
          case rel => exact ⟨p, sq', pre, ys, rfl, HG2, HX, ⟨hJ _ _ _ HJ2.out (.inl (grown_of_below hb4 none))⟩, ⟨blk_below M1.out hb4⟩, ⟨blk_below M2.out hb4⟩, ⟨blk_below M3.out hb4⟩⟩
        | false =>
          rw [if_neg Bool.false_ne_true] at h
          obtain rfl := Option.some.inj h
          clear h
          go_upto_region 9 with (go_at_call 30; (with_reducible refine (hpad k1 s at_ p false _ HA2.out).mono ?_); rintro e w4 ⟨rfl, hb4⟩; have HB4 := Aside0.mk hb4; clear hb4)
          obtain ⟨fn, tmps, assign, body, hy, hR⟩ := hY pre (false, ⟨0, 0, ⟨#[]⟩⟩, at_) w4 (hJ _ _ _ HJ2.out (.inl (grown_of_below HB4.out none))) (by rw [HX.out]; simp)
          simp only [scan_encs] at hy
          gi_wp2_with fail
          refine hR.mono ?_
          rintro e W' ⟨rfl, hJ', hk⟩
          gi_wp2_with fail
          simp only [Exit.noGoto]
          refine bodyPost_end (results_none rfl _ _ _) rfl ?_
          exact ⟨⟨_, rfl⟩, by rw [HX.out]; exact hJ'⟩
def scan_outs (l : List scan_Fnd) : List S39 := (l.filter (·.1)).map (·.2.1)
def scan_endOf (l : List scan_Fnd) : Int := (l.getLast?.map (·.2.2)).getD 0
def scan_cells (l : List S39) : List Value := l.flatMap fun f => [.int .i64 f.f0, .int .i64 f.f1, .string f.f2]
theorem scan_reps (w : World) (base : Nat) (ok : Nat → Prop) (l : List S39) : Reps (k39.M w base ok) 3 l (scan_cells l) := by
  have key : ∀ m : List S39, Reps (k39.M w base ok) 3 m.reverse (scan_cells m.reverse) := by
    intro m
    induction m with
    | nil => exact Reps.none _ _
    | cons x m ih =>
      rw [List.reverse_cons]
      have e : scan_cells (m.reverse ++ [x]) = scan_cells m.reverse ++ [.int .i64 x.f0, .int .i64 x.f1, .string x.f2] := by unfold scan_cells; rw [List.flatMap_append]; rfl
      rw [e]
      exact Reps.snoc ih (k39_mkM _ _ _ x) rfl
  have := key l.reverse
  rwa [List.reverse_reverse] at this
theorem scan_R {W : World} {B base : Nat} {v : Value} {l : List S39} (h : W.ownsRow B 39 3 v l.length (scan_cells l)) (hb : base ≤ B) : Kd.R k39 39 W base (fun _ => True) v l :=
  ⟨fun _ _ => trivial, scan_cells l, own_weaken h hb, scan_reps _ _ _ l⟩
def scan_Run.of (pad : Nat → ByteArray → Int → Option (Int × Bool)) (k : Nat) (s : ByteArray) (ep sq : Int) : Option (List S39 × Int) :=
  (scan_frames.go pad k s ep sq 0).bind fun xs => if xs.length ≤ 1000000 then (some (scan_outs xs, scan_endOf xs)) else none
def scan_I (w : World) (B b8 b9 : Nat) (pre : List scan_Fnd) (W : World) : Prop :=
  (∃ v, W.heap[b8]? = some (.cells #[v] 23 (0, 0)) ∧ W.ownsRow B 39 3 v (scan_outs pre).length (scan_cells (scan_outs pre))) ∧ W.heap[b9]? = some (.cells #[.int .i64 (scan_endOf pre)] 3 (0, 0)) ∧ Below w.heap.size w W ∧ B ≤ W.heap.size
theorem scan_I_grown {w W W' : World} {B b8 b9 : Nat} {pre : List scan_Fnd} {row : Option Nat} (h : scan_I w B b8 b9 pre W) (h8 : b8 < B) (h9 : b9 < B) (hg : W.grownBy W' row)
    (h8r : some b8 ≠ row) (h9r : some b9 ≠ row) (hw : ∀ k, row = some k → w.heap.size ≤ k) (hrow : ∀ k, row = some k → k < B ∨ ∃ o, W.heap[k]? = some o ∧ o.isCells = false) : scan_I w B b8 b9 pre W' := by
  obtain ⟨⟨v, hv, ho⟩, h9', hb, hB⟩ := h
  refine ⟨⟨v, blk_grown hv hg h8r, ho.kept hg ?_⟩, blk_grown h9' hg h9r, hb.grown hg hb.size hw, Nat.le_trans hB hg.size⟩
  cases hk : v.ownBlock with
  | none => exact .inl rfl
  | some k =>
    refine .inr (fun e => ?_)
    rcases hrow k e.symm with hlt | ⟨o, ho1, ho2⟩
    · have := own_base ho k hk
      omega
    · obtain ⟨cs, hc⟩ := own_typed ho k hk
      rw [hc] at ho1
      cases ho1
      cases ho2
theorem scan_outs_t (pre : List scan_Fnd) (f : S39) (e : Int) : scan_outs (pre ++ [(true, f, e)]) = scan_outs pre ++ [f] := by simp [scan_outs]
theorem scan_outs_f (pre : List scan_Fnd) (f : S39) (e : Int) : scan_outs (pre ++ [(false, f, e)]) = scan_outs pre := by simp [scan_outs]
theorem scan_endOf_snoc (pre : List scan_Fnd) (b : Bool) (f : S39) (e : Int) : scan_endOf (pre ++ [(b, f, e)]) = e := by simp [scan_endOf]
theorem scan_cells_snoc (l : List S39) (a b : Int) (s : ByteArray) : scan_cells (l ++ [⟨a, b, s⟩]) = scan_cells l ++ [.int .i64 a, .int .i64 b, .string s] := by simp [scan_cells]
theorem scan_outs_le (l : List scan_Fnd) : (scan_outs l).length ≤ l.length := by
  unfold scan_outs
  rw [List.length_map]
  exact List.length_filter_le _ _
theorem scan_frames.mk (s : ByteArray) (ep sq : Int) (w : World) :
    Calls Try.prog 23 #[.string s, .int .i64 ep, .int .i64 sq] w fun e w' => e = .returned (.func (.func 29) #[] #[.pointer (some ⟨w.heap.size, 0, none⟩), .pointer (some ⟨w.heap.size + 1, 0, none⟩), .pointer (some ⟨w.heap.size + 1 + 1, 0, none⟩)]) ∧
      w' = ((w.alloc (.cells #[.string s] 9)).alloc (.cells #[.int .i64 ep] 3)).alloc (.cells #[.int .i64 sq] 3) := by
  have hmf : ∀ (fn : Fn) (first cap : Array Value) (w : World), (Instr.makeFunc fn first cap).run Try.prog w = .ok (.func fn first cap) w := fun _ _ _ _ => rfl
  go_enter Try.func23, Try.ntmps23
  go_wp2
  go_ret
  exact ⟨rfl, rfl⟩
set_option maxHeartbeats 8000000 in
set_option maxRecDepth 100000 in
theorem scan_Run.calls_of (pad : Nat → ByteArray → Int → Option (Int × Bool))
    (hpad : ∀ (k : Nat) (s : ByteArray) (at_ p : Int) (ok : Bool) (w : World), pad k s at_ = some (p, ok) → Calls Try.prog 30 #[.string s, .int .i64 at_] w fun e w' => e = .returned (.tuple #[.int .i64 p, .bool ok]) ∧ Below w.heap.size w w')
    (k : Nat) (a0 : ByteArray) (a1 a2 : Int) (r1 : List S39) (r2 : Int) (w : World) (h : scan_Run.of pad k a0 a1 a2 = some (r1, r2)) :
    Calls Try.prog 9 #[.string a0, .int .i64 a1, .int .i64 a2] w fun e w' => ∃ v0_ : Value, e = .returned (.tuple #[v0_, .int .i64 r2]) ∧ Kd.R k39 39 w' w.heap.size (fun _ => True) v0_ r1 ∧ Below w.heap.size w w' := by
  unfold scan_Run.of at h
  replace h := Option.bind_eq_some_iff.mp h
  obtain ⟨xs, A1, h⟩ := h
  by_cases hl : xs.length ≤ 1000000
  rotate_left
  · rw [if_neg hl] at h
    cases h
  rw [if_pos hl] at h
  simp only [Option.some.injEq, Prod.mk.injEq] at h
  obtain ⟨rfl, rfl⟩ := h
  have HA := Aside0.mk A1
  have HL := Aside0.mk hl
  have hu56 := Try.underlying56
  clear A1 hl
  refine (callsIn_wide (n := 3)).1 ?_
  refine callsIn_of_wp_marks Try.func9 rfl trivial ?_ rfl
  simp only [Try.ntmps9, List.size_toArray, List.length_cons, List.length_nil, Nat.reduceAdd, Nat.reduceSub, Array.replicate_succ, Array.replicate_zero, List.push_toArray, List.append_toArray, List.nil_append, List.cons_append]
  gi_wp2_with (refine ⟨trivial, ?_⟩; gi_at_call 23; refine ((callsIn_wide (n := 3 - 1)).2 (scan_frames.mk a0 a1 a2 _)).mono ?_; rintro e w' ⟨rfl, rfl⟩)
  have hW0 : ∀ W0, ((((((w.alloc (.cells #[.slice none 0 0] 23)).alloc (.cells #[.int .i64 0] 3)).alloc (.cells #[.string a0] 9)).alloc (.cells #[.int .i64 a1] 3)).alloc (.cells #[.int .i64 a2] 3))) = W0 →
      W0.heap.size = w.heap.size + 5 ∧ Below w.heap.size w W0 ∧ W0.heap[w.heap.size]? = some (.cells #[.slice none 0 0] 23 (0, 0)) ∧ W0.heap[w.heap.size + 1]? = some (.cells #[.int .i64 0] 3 (0, 0)) ∧
      W0.heap[w.heap.size + 2]? = some (.cells #[.string a0] 9 (0, 0)) ∧ W0.heap[w.heap.size + 3]? = some (.cells #[.int .i64 a1] 3 (0, 0)) ∧ W0.heap[w.heap.size + 4]? = some (.cells #[.int .i64 a2] 3 (0, 0)) := by
    rintro W0 rfl
    have n0 := heap_alloc_new w (.cells #[.slice none 0 0] 23)
    have n1 := heap_alloc_new (w.alloc (.cells #[.slice none 0 0] 23)) (.cells #[.int .i64 0] 3)
    have n2 := heap_alloc_new ((w.alloc (.cells #[.slice none 0 0] 23)).alloc (.cells #[.int .i64 0] 3)) (.cells #[.string a0] 9)
    have n3 := heap_alloc_new (((w.alloc (.cells #[.slice none 0 0] 23)).alloc (.cells #[.int .i64 0] 3)).alloc (.cells #[.string a0] 9)) (.cells #[.int .i64 a1] 3)
    have n4 := heap_alloc_new ((((w.alloc (.cells #[.slice none 0 0] 23)).alloc (.cells #[.int .i64 0] 3)).alloc (.cells #[.string a0] 9)).alloc (.cells #[.int .i64 a1] 3)) (.cells #[.int .i64 a2] 3)
    simp only [World.size_alloc] at n1 n2 n3 n4
    refine ⟨by simp, ?_, blk_alloc (blk_alloc (blk_alloc (blk_alloc n0 _) _) _) _, blk_alloc (blk_alloc (blk_alloc n1 _) _) _, blk_alloc (blk_alloc n2 _) _, blk_alloc n3 _, n4⟩
    exact (((((Below.refl _ w).alloc (Nat.le_refl _) _).alloc (by simp) _).alloc (by simp; omega) _).alloc (by simp; omega) _).alloc (by simp; omega) _
  try simp only [World.size_alloc]
  generalize ((((((w.alloc (.cells #[.slice none 0 0] 23)).alloc (.cells #[.int .i64 0] 3)).alloc (.cells #[.string a0] 9)).alloc (.cells #[.int .i64 a1] 3)).alloc (.cells #[.int .i64 a2] 3))) = W0 at hW0 ⊢
  obtain ⟨hs, hbW, m8, m9, m1, m2, m3⟩ := hW0 W0 rfl
  clear hW0
  rename_i Q' K hK
  have h0 : scan_I w W0.heap.size w.heap.size (w.heap.size + 1) [] W0 := ⟨⟨_, m8, own_nil _ _ _ _⟩, m9, hbW, Nat.le_refl _⟩
  refine RangeSeq.range_gives (C := w.heap.size + 1 + 1 + 1 + 1) (by omega) rfl (by omega) (gf := 29) (lb := #[.pointer (some ⟨w.heap.size + 1 + 1, 0, none⟩), .pointer (some ⟨w.heap.size + 1 + 1 + 1, 0, none⟩), .pointer (some ⟨w.heap.size + 1 + 1 + 1 + 1, 0, none⟩)]) rfl trivial
    (enters_of Try.func29 (by kernel_rfl) rfl) (encs := scan_encs) (Kp := scan_Kp (w.heap.size + 1 + 1) (w.heap.size + 1 + 1 + 1) (w.heap.size + 1 + 1 + 1 + 1)) (xs := xs)
    (scan_frames.gives pad hpad k a0 a1 a2 xs W0 _ _ _ (by omega) (by omega) m1 m2 m3 HA.out) ?hKt ?hKb (fun _ => rfl) (scan_I w W0.heap.size w.heap.size (w.heap.size + 1)) ?hI ?hIC h0
    (fun x a' W => ∃ g, W0.heap.size ≤ g ∧ W.heap[g]? = some (.cells #[.int .i64 x.2.1.f0, .int .i64 x.2.1.f1, .string x.2.1.f2, .int .i64 x.2.2] 56 (0, 0)) ∧
      a' = { tmps := #[.string a0, .int .i64 a1, .int .i64 a2, undef, undef, undef, .slice none 0 0, .int .i64 0, .pointer (some ⟨w.heap.size, 0, none⟩), .pointer (some ⟨w.heap.size + 1, 0, none⟩), .bool x.1, .pointer (some ⟨g, 0, none⟩), .string a0,
        .int .i64 a1, .int .i64 a2, .func (.func 29) #[] #[.pointer (some ⟨w.heap.size + 1 + 1, 0, none⟩), .pointer (some ⟨w.heap.size + 1 + 1 + 1, 0, none⟩), .pointer (some ⟨w.heap.size + 1 + 1 + 1 + 1, 0, none⟩)],
        .bool x.1, .agg #[.int .i64 x.2.1.f0, .int .i64 x.2.1.f1, .string x.2.1.f2, .int .i64 x.2.2], undef, undef, undef, undef, undef, undef, undef, undef, undef, undef], defers := [] }) ?hAx ?assign ?body ?done
  case hKt =>
    rintro X Y Z ⟨h1, h2, h3⟩ ⟨k1, k2, k3⟩
    exact ⟨k1.trans h1, k2.trans h2, k3.trans h3⟩
  case hKb =>
    intro W k o o' hk _ _
    exact ⟨World.putObj_heap_other (by omega), World.putObj_heap_other (by omega), World.putObj_heap_other (by omega)⟩
  case hI =>
    intro pre W W' row hi hg hrow
    have hr : ∀ k, row = some k → W0.heap.size ≤ k := fun k e => (hrow k e).1
    refine scan_I_grown hi (by omega) (by omega) hg ?_ ?_ (fun k e => by have := hr k e; omega) (fun k e => .inr (hrow k e).2)
    · intro e
      have := hr _ e.symm
      omega
    · intro e
      have := hr _ e.symm
      omega
  case hIC =>
    rintro pre W W' hi (hg | hg)
    · exact scan_I_grown hi (by omega) (by omega) hg (by simp) (by simp) (fun k e => by cases e) (fun k e => by cases e)
    · exact scan_I_grown hi (by omega) (by omega) hg (fun e => by injection e; omega) (fun e => by injection e; omega) (fun k e => by injection e; omega) (fun k e => by injection e; exact .inl (by omega))
  case hAx =>
    rintro x a' _ W W' row ⟨g, hg1, hg2, rfl⟩ hg hrow
    refine ⟨g, hg1, blk_grown hg2 hg ?_, rfl⟩
    intro e
    obtain ⟨_, o, ho1, ho2⟩ := hrow _ e.symm
    rw [hg2] at ho1
    cases ho1
    cases ho2
  case assign =>
    rintro l pre ⟨x1, ⟨x2, x3, x4⟩, x5⟩ W K2 hi hK2
    simp only [scan_encs]
    gi_wp2
    have hBW := hi.2.2.2
    exact hK2 _ _ ((KeepsOthers.alloc W _).from _) ⟨Below.heap_alloc _ _ _ (by omega), Below.heap_alloc _ _ _ (by omega), Below.heap_alloc _ _ _ (by omega)⟩
      (scan_I_grown hi (by omega) (by omega) (World.grownBy_alloc W _ none) (by simp) (by simp) (fun k e => by cases e) (fun k e => by cases e)) ⟨W.heap.size, hBW, heap_alloc_new _ _, rfl⟩
  case body =>
    rintro l pre ⟨x1, ⟨x2, x3, x4⟩, x5⟩ a' W hi hlen ⟨g, hg1, hg2, rfl⟩
    obtain ⟨⟨v, hv, ho⟩, h9, hb, hB⟩ := hi
    have c9 := (blk_cell h9 0).trans rfl
    have f9 := blk_frozen h9 0
    have cg3 := (blk_cell hg2 3).trans rfl
    have n8 := blk_far hv (p := ⟨w.heap.size + 1, 0, none⟩) (by simp) (.int .i64 x5)
    have n9 := blk_put (cs' := #[.int .i64 x5]) h9 0 (.int .i64 x5) rfl
    have ng := blk_far hg2 (p := ⟨w.heap.size + 1, 0, none⟩) (by simp; omega) (.int .i64 x5)
    have hgr := grownBy_setCell' W (w.heap.size + 1) (.int .i64 x5)
    have c8 := (blk_cell n8 0).trans rfl
    have cg0 := (blk_cell ng 0).trans rfl
    have cg1 := (blk_cell ng 1).trans rfl
    have cg2 := (blk_cell ng 2).trans rfl
    have hu39 := Try.underlying39
    have hnew := heap_alloc_new (W.setCell ⟨w.heap.size + 1, 0, none⟩ (.int .i64 x5)) (.cells #[.int .i64 x2, .int .i64 x3, .string x4] 39)
    have hsz : (W.setCell ⟨w.heap.size + 1, 0, none⟩ (.int .i64 x5)).heap.size = W.heap.size := World.size_setCell _ _ _
    rw [hsz] at hnew
    have ho2 : (W.setCell ⟨w.heap.size + 1, 0, none⟩ (.int .i64 x5)).ownsRow W0.heap.size 39 3 v (scan_outs pre).length (scan_cells (scan_outs pre)) := by
      refine ho.kept hgr (.inr (fun e => ?_))
      have := own_base ho _ e
      omega
    have hkp : scan_Kp (w.heap.size + 1 + 1) (w.heap.size + 1 + 1 + 1) (w.heap.size + 1 + 1 + 1 + 1) W (W.setCell ⟨w.heap.size + 1, 0, none⟩ (.int .i64 x5)) :=
      ⟨Below.heap_setCell _ _ _ _ (by show _ ≠ w.heap.size + 1; omega), Below.heap_setCell _ _ _ _ (by show _ ≠ w.heap.size + 1; omega), Below.heap_setCell _ _ _ _ (by show _ ≠ w.heap.size + 1; omega)⟩
    have hko : KeepsOthers W (W.setCell ⟨w.heap.size + 1, 0, none⟩ (.int .i64 x5)) := KeepsOthers.setCell _ _ _
    have hbl : Below w.heap.size w (W.setCell ⟨w.heap.size + 1, 0, none⟩ (.int .i64 x5)) := hb.setCell (p := ⟨w.heap.size + 1, 0, none⟩) (by simp) _
    have HS := Aside0.mk hs
    have HBW := Aside0.mk hB
    have HG1 := Aside0.mk hg1
    clear hs hB hg1
    cases x1 with
    | false =>
      gi_wp2
      refine ⟨hko.from _, hkp, ⟨v, n8, ?_⟩, ?_, hbl, ?_⟩
      · rw [scan_outs_f]
        exact ho2
      · rw [scan_endOf_snoc]
        exact n9
      · rw [hsz]
        exact HBW.out
    | true =>
      obtain ⟨i0, hi0, hz0, hz1, hz2⟩ := info_parts info39
      have hlen2 : (scan_outs pre).length + 1 ≤ 1000000 := by
        have := scan_outs_le pre
        have := HL.out
        omega
      have HLE := Aside0.mk hlen2
      have HX := Aside0.mk hlen
      clear hlen2 hlen
      gi_wp2_with (gi_at_builtin; refine wpListIn_append_own _ rfl _ _ 23 rfl W0.heap.size 39 i0 _ 3 32 Try.underlying23 hi0 hz0 hz1 hz2 rfl (by decide) _ _ _ rfl (ho2.alloc _) ⟨W.heap.size, 0, none⟩ 1 1 [.int .i64 x2, .int .i64 x3, .string x4] rfl rfl ?c1 ?c2 ?c3 ?c4 ?c5 ?_; (case c1 => intro j u hj; (match j, hj with | 0, hj => exact (blk_cell hnew 0).trans hj | 1, hj => exact (blk_cell hnew 1).trans hj | 2, hj => exact (blk_cell hnew 2).trans hj)); (case c2 => intro u hu; simp at hu; rcases hu with rfl | rfl | rfl <;> rfl); (case c3 => have := HLE.out; unfold maxLen; omega); (case c4 => have := HLE.out; omega); (case c5 => have := HBW.out; simp; omega); intro v' w1 hown' hgrow _; obtain ⟨g', cap', rfl⟩ := ownsRow_succ hown'; obtain ⟨hv1, hv2, _, hk2, hb2⟩ := Boxed.appended (B := w.heap.size) n8 (by decide) (own_weaken ho2 hbW.size) hbl.size (Nat.le_refl _) (own_weaken hown' hbW.size) hgrow; have hc1 := hv1.cell; have hf1 := hv1.frozen)
      have hgrow : ((W.setCell ⟨w.heap.size + 1, 0, none⟩ (.int .i64 x5)).alloc (.cells #[.int .i64 x2, .int .i64 x3, .string x4] 39)).grownBy w1 v.ownBlock := hgrow
      generalize W.setCell ⟨w.heap.size + 1, 0, none⟩ (.int .i64 x5) = Wn at *
      have hs' := HS.out
      have hB' := HBW.out
      have key : ∀ j, w.heap.size < j → j < W0.heap.size → (w1.setCell ⟨w.heap.size, 0, none⟩ (.slice (some ⟨g', 0, none⟩) ((scan_outs pre).length + 1) cap')).heap[j]? = Wn.heap[j]? := by
        intro j j1 j2
        refine (Below.heap_setCell _ _ _ j (by show j ≠ w.heap.size; omega)).trans ((hgrow.block j (by simp; omega) (fun e => ?_)).trans (Below.heap_alloc _ _ j (by omega)))
        have := own_base ho2 _ e.symm
        omega
      refine ⟨(hko.trans hk2).from _, ⟨(key _ (by omega) (by omega)).trans hkp.1, (key _ (by omega) (by omega)).trans hkp.2.1, (key _ (by omega) (by omega)).trans hkp.2.2⟩, ⟨_, hv2, ?_⟩, ?_, hbl.trans hb2, ?_⟩
      · rw [scan_outs_t, scan_cells_snoc, List.length_append]
        refine hown'.kept (grownBy_setCell' w1 w.heap.size _) (.inr (fun e => ?_))
        have := own_base hown' _ e
        omega
      · rw [scan_endOf_snoc]
        exact (key _ (by omega) (by omega)).trans n9
      · have := hk2.size
        omega
  case done =>
    intro D W hD hi hDk
    obtain ⟨⟨v, hv, ho⟩, h9', hb, hB⟩ := hi
    have c8 := (blk_cell hv 0).trans rfl
    have c9 := (blk_cell h9' 0).trans rfl
    refine hK _ _ ?_
    gi_wp2
    gi_region
    rename_i K2 hK2
    refine hK2 _ _ ?_
    gi_wp2
    refine ⟨by simp, .inl ⟨_, _, rfl, run_takeDeferred hDk, ⟨_, results_tmp2 rfl _ _ _, v, rfl, ?_, ?_⟩⟩⟩
    · have ho1 : W.drew.ownsRow W0.heap.size 39 3 v (scan_outs xs).length (scan_cells (scan_outs xs)) := ho
      refine scan_R (ho1.kept (grownBy_putObj' W.drew D (.deferred none)) (.inr (fun e => ?_))) hbW.size
      obtain ⟨cs, hc⟩ := own_typed ho _ e
      rw [hc] at hDk
      cases hDk
    · exact (below_drew1 hb).grown (grownBy_putObj' W.drew D (.deferred none)) hb.size (fun k e => by injection e; omega)
theorem scan_frames.mono (pad : Nat → ByteArray → Int → Option (Int × Bool)) (hp : ∀ s a k, LeO (pad k s a) (pad (k + 1) s a)) : ∀ k s ep sq a, LeO (scan_frames.go pad k s ep sq a) (scan_frames.go pad (k + 1) s ep sq a)
  | 0, _, _, _, _ => LeO.none _
  | k + 1, s, ep, sq, a => by
    have ih := scan_frames.mono pad hp k
    unfold scan_frames.go
    exact LeO.ite (LeO.bind (frame_One.mono _ _) fun _ => LeO.ite (LeO.map _ (ih _ _ _ _)) (LeO.bind (hp _ _ _) fun _ => LeO.ite (ih _ _ _ _) (LeO.refl _))) (LeO.refl _)
def scan_Run.f (k : Nat) (a0 : ByteArray) (a1 : Int) (a2 : Int) : Option (List S39 × Int) := scan_Run.of scan_padding.f k a0 a1 a2
theorem scan_Run.mono : ∀ a0 a1 a2 k, LeO (scan_Run.f k a0 a1 a2) (scan_Run.f (k + 1) a0 a1 a2) := by
  intro a0 a1 a2 k
  exact LeO.bind (scan_frames.mono scan_padding.f (fun s a k => scan_padding.mono s a k) _ _ _ _ _) fun _ => LeO.refl _
theorem scan_Run.calls (k : Nat) (a0 : ByteArray) (a1 : Int) (a2 : Int) (r1 : List S39) (r2 : Int) (w : World) (h : scan_Run.f k a0 a1 a2 = some (r1, r2)) :
    Calls Try.prog 9 #[.string a0, .int .i64 a1, .int .i64 a2] w fun e w' => ∃ v0_ : Value, e = .returned (.tuple #[v0_, .int .i64 r2]) ∧ Kd.R k39 39 w' w.heap.size (fun _ => True) v0_ r1 ∧ Below w.heap.size w w' :=
  scan_Run.calls_of scan_padding.f (fun k s a p ok w h => (scan_padding.calls k s a p ok w h).mono fun _ _ z => ⟨z.1, z.2.below⟩) k a0 a1 a2 r1 r2 w h

/-! ### scan_Why: function 12 -/
def scan_Why.f (k : Nat) (a0 : ByteArray) (a1 : Int) (a2 : Int) : Option (Int) := (scan_Run.f k a0 a1 a2).bind fun bt136 => (if bt136.2 = (a0.size : Int) then (some 0) else (if 0 ≤ bt136.2 then (if bt136.2 ≤ (a0.size : Int) then ((frame_One.f k (a0.extract (bt136.2 : Int).toNat a0.size)).bind fun bt140 => (if bt140.2.2.2.2 = 0 then (some 3) else (some bt140.2.2.2.2))) else (none)) else (none)))
theorem scan_Why.mono : ∀ a0 a1 a2 k, LeO (scan_Why.f k a0 a1 a2) (scan_Why.f (k + 1) a0 a1 a2) := by
  intro a0 a1 a2 k
  unfold scan_Why.f
  repeat' first
      | (with_reducible exact frame_One.mono _ _)
      | (with_reducible exact scan_Run.mono _ _ _ _)
      | (with_reducible exact LeO.refl _)
      | (with_reducible exact LeO.none _)
      | (with_reducible refine LeO.ite ?_ ?_)
      | (with_reducible refine LeO.bind ?_ (fun _ => ?_))
      | exact frame_One.mono _ _
      | exact scan_Run.mono _ _ _ _
      | exact LeO.none _
      | refine LeO.ite ?_ ?_
      | refine LeO.bind ?_ (fun _ => ?_)
set_option maxHeartbeats 8000000 in
set_option maxRecDepth 100000 in
theorem scan_Why.calls (k : Nat) (a0 : ByteArray) (a1 : Int) (a2 : Int) (r : Int) (w : World) (h : scan_Why.f k a0 a1 a2 = some r) :
    Calls Try.prog 12 #[.string a0, .int .i64 a1, .int .i64 a2] w fun e w' => e = .returned (.int .i64 r) ∧ Below w.heap.size w w' := by
  have hu39 := Try.underlying39
  have HB := Aside0.mk (Below.refl w.heap.size w)
  have H : ((scan_Run.f k a0 a1 a2).bind fun bt136 => (if bt136.2 = (a0.size : Int) then (some 0) else (if 0 ≤ bt136.2 then (if bt136.2 ≤ (a0.size : Int) then ((frame_One.f k (a0.extract (bt136.2 : Int).toNat a0.size)).bind fun bt140 => (if bt140.2.2.2.2 = 0 then (some 3) else (some bt140.2.2.2.2))) else (none)) else (none)))) = some r := h
  clear h
  replace H := Option.bind_eq_some_iff.mp H
  obtain ⟨⟨t136, t137⟩, A40, H⟩ := H
  replace H : (if t137 = (a0.size : Int) then (some 0) else (if 0 ≤ t137 then (if t137 ≤ (a0.size : Int) then ((frame_One.f k (a0.extract (t137 : Int).toNat a0.size)).bind fun bt140 => (if bt140.2.2.2.2 = 0 then (some 3) else (some bt140.2.2.2.2))) else (none)) else (none))) = some r := H
  have A4 := Aside0.mk A40
  clear A40
  by_cases c5 : t137 = (a0.size : Int)
  · rw [if_pos c5] at H
    have c5b0 : (t137 == (a0.size : Int)) = true := beq_iff_eq.mpr c5
    have c5b1 : (t137 != (a0.size : Int)) = false := bne_eq_false_iff_eq.mpr c5
    clear c5
    obtain rfl := Option.some.inj H
    go_enter Try.func12, Try.ntmps12
    go_wp2_with (first | ((with_reducible refine gate_callee (f := 9) rfl ?_); refine goesL_ (some 16) rfl rfl Try.func9 (by kernel_rfl) rfl #[.string a0, .int .i64 a1, .int .i64 a2] rfl (by (try simp only [List.map_toArray, List.map_cons, List.map_nil]); first | done | rfl | (simp only [List.length_drop, List.length_take]; rfl)) ?_; (with_reducible refine (scan_Run.calls k a0 a1 a2 t136 t137 _ A4.out).mono ?_); rintro e w6 ⟨v138, rfl, ho0, hb⟩; refine ⟨_, rfl, ?_⟩; have n0_ := Aside0.mk (Kd.R_lower ho0 (below_size (by repeat (first | (with_reducible first | exact HB.out | apply below_alloc | apply pw_below_drewN | apply below_drew1) | exact HB.out)))); have n1_ := Aside0.mk (below_step (by repeat (first | (with_reducible first | exact HB.out | apply below_alloc | apply pw_below_drewN | apply below_drew1) | exact HB.out)) hb); clear HB; have HO139 := n0_; have HB := n1_; clear n0_ n1_; (try clear hb); (try clear hb2); (try clear hk); (try clear hi); (try clear ho0)))
    go_ret
    exact ⟨by first | rfl | (simp [errW_none, errW_some] <;> rfl) | (simp [*, errW_none, errW_some] <;> rfl), by repeat (first | (with_reducible first | exact HB.out | apply below_alloc | apply pw_below_drewN | apply below_drew1) | exact HB.out)⟩
  · rw [if_neg c5] at H
    have c5b0 : (t137 == (a0.size : Int)) = false := beq_eq_false_iff_ne.mpr c5
    have c5b1 : (t137 != (a0.size : Int)) = true := bne_iff_ne.mpr c5
    by_cases c7 : 0 ≤ t137
    · rw [if_pos c7] at H
      have c7b0 := eq_true c7
      have c7b1 : decide (0 ≤ t137) = true := decide_eq_true c7
      clear c7
      by_cases c8 : t137 ≤ (a0.size : Int)
      · rw [if_pos c8] at H
        have c8b0 := eq_true c8
        have c8b1 : decide (t137 ≤ (a0.size : Int)) = true := decide_eq_true c8
        clear c8
        replace H := Option.bind_eq_some_iff.mp H
        obtain ⟨⟨t140, t141, t142, t143, t144⟩, A90, H⟩ := H
        replace H : (if t144 = 0 then (some 3) else (some t144)) = some r := H
        have A9 := Aside0.mk A90
        clear A90
        by_cases c10 : t144 = 0
        · rw [if_pos c10] at H
          have c10b0 : (t144 == 0) = true := beq_iff_eq.mpr c10
          have c10b1 : (t144 != 0) = false := bne_eq_false_iff_eq.mpr c10
          clear c10
          obtain rfl := Option.some.inj H
          go_enter Try.func12, Try.ntmps12
          go_wp2_with (first | ((with_reducible refine gate_callee (f := 9) rfl ?_); refine goesL_ (some 16) rfl rfl Try.func9 (by kernel_rfl) rfl #[.string a0, .int .i64 a1, .int .i64 a2] rfl (by (try simp only [List.map_toArray, List.map_cons, List.map_nil]); first | done | rfl | (simp only [List.length_drop, List.length_take]; rfl)) ?_; (with_reducible refine (scan_Run.calls k a0 a1 a2 t136 t137 _ A4.out).mono ?_); rintro e w11 ⟨v138, rfl, ho0, hb⟩; refine ⟨_, rfl, ?_⟩; have n0_ := Aside0.mk (Kd.R_lower ho0 (below_size (by repeat (first | (with_reducible first | exact HB.out | apply below_alloc | apply pw_below_drewN | apply below_drew1) | exact HB.out)))); have n1_ := Aside0.mk (below_step (by repeat (first | (with_reducible first | exact HB.out | apply below_alloc | apply pw_below_drewN | apply below_drew1) | exact HB.out)) hb); clear HB; have HO139 := n0_; have HB := n1_; clear n0_ n1_; (try clear hb); (try clear hb2); (try clear hk); (try clear hi); (try clear ho0)) | ((with_reducible refine gate_callee (f := 25) rfl ?_); refine goesL_ (some 27) rfl rfl Try.func25 (by kernel_rfl) rfl #[.string (a0.extract (t137 : Int).toNat a0.size)] rfl (by (try simp only [List.map_toArray, List.map_cons, List.map_nil]); first | done | rfl | (simp only [List.length_drop, List.length_take]; rfl)) ?_; (with_reducible refine (frame_One.calls k (a0.extract (t137 : Int).toNat a0.size) t140 t141 t142 t143 t144 _ A9.out).mono ?_); rintro e w12 ⟨rfl, hb⟩; refine ⟨_, rfl, ?_⟩; have n0_ := Aside0.mk (Kd.R_below (by (with_reducible repeat (first | apply Kd.R_alloc | apply Kd.R_drewN | apply Kd.R_drew)); exact HO139.out) hb); have n1_ := Aside0.mk (below_step (by repeat (first | (with_reducible first | exact HB.out | apply below_alloc | apply pw_below_drewN | apply below_drew1) | exact HB.out)) hb); clear HO139; clear HB; have HO139 := n0_; have HB := n1_; clear n0_ n1_; (try clear hb); (try clear hb2); (try clear hk); (try clear hi)) | ((with_reducible refine gate_dst (N := 9) rfl ?_); refine box_event ?hg (N := 9) ?hd (cs := #[.int .i64 0, .int .i64 0, .string (⟨#[]⟩ : ByteArray)]) (t := 39) ?hr ?_; (case hd => rfl); (case hg => rfl); (case hr => first | (go_simp; done) | (go_simp; rfl)); intro gb145 hg w13 hbox hb; have n0_ := Aside0.mk (Kd.R_below (Kd.R_elderB (by (with_reducible repeat (first | apply Kd.R_alloc | apply Kd.R_drewN | apply Kd.R_drew)); exact HO139.out) gb145 (Nat.le_of_eq hg.symm)) hb); have n1_ := Aside0.mk (below_step (by repeat (first | (with_reducible first | exact HB.out | apply below_alloc | apply pw_below_drewN | apply below_drew1) | exact HB.out)) hb); have n2_ := Aside0.mk (hbox); have n3_ := Aside0.mk ((by rw [hg]; exact (below_size (by repeat (first | (with_reducible first | exact HB.out | apply below_alloc | apply pw_below_drewN | apply below_drew1) | exact HB.out))) : w.heap.size ≤ gb145)); have n4_ := Aside0.mk ((by rw [hg]; exact (below_size (by repeat (first | (with_reducible first | exact HB.out | apply below_alloc | apply pw_below_drewN | apply below_drew1) | exact HB.out))) : w.heap.size ≤ gb145)); clear HO139; clear HB; have HO139 := n0_; have HB := n1_; have BK145 := n2_; have GW145 := n3_; have GE145 := n4_; clear n0_ n1_ n2_ n3_ n4_; clear hb hbox hg; have hcz14_0 : w13.cell? ⟨gb145, 0, none⟩ = some (.int .i64 0) := (blk_cell BK145.out 0).trans rfl; have hcz14_1 : w13.cell? ⟨gb145, 1, none⟩ = some (.int .i64 0) := (blk_cell BK145.out 1).trans rfl; have hcz14_2 : w13.cell? ⟨gb145, 2, none⟩ = some (.string (⟨#[]⟩ : ByteArray)) := (blk_cell BK145.out 2).trans rfl; have hfz14_0 := blk_frozen BK145.out 0; have hfz14_1 := blk_frozen BK145.out 1; have hfz14_2 := blk_frozen BK145.out 2))
          go_ret
          exact ⟨by first | rfl | (simp [errW_none, errW_some] <;> rfl) | (simp [*, errW_none, errW_some] <;> rfl), by repeat (first | (with_reducible first | exact HB.out | apply below_alloc | apply pw_below_drewN | apply below_drew1 | refine below_set ?_ GE145.out) | exact HB.out)⟩
        · rw [if_neg c10] at H
          have c10b0 : (t144 == 0) = false := beq_eq_false_iff_ne.mpr c10
          have c10b1 : (t144 != 0) = true := bne_iff_ne.mpr c10
          obtain rfl := Option.some.inj H
          go_enter Try.func12, Try.ntmps12
          go_wp2_with (first | ((with_reducible refine gate_callee (f := 9) rfl ?_); refine goesL_ (some 16) rfl rfl Try.func9 (by kernel_rfl) rfl #[.string a0, .int .i64 a1, .int .i64 a2] rfl (by (try simp only [List.map_toArray, List.map_cons, List.map_nil]); first | done | rfl | (simp only [List.length_drop, List.length_take]; rfl)) ?_; (with_reducible refine (scan_Run.calls k a0 a1 a2 t136 t137 _ A4.out).mono ?_); rintro e w15 ⟨v138, rfl, ho0, hb⟩; refine ⟨_, rfl, ?_⟩; have n0_ := Aside0.mk (Kd.R_lower ho0 (below_size (by repeat (first | (with_reducible first | exact HB.out | apply below_alloc | apply pw_below_drewN | apply below_drew1) | exact HB.out)))); have n1_ := Aside0.mk (below_step (by repeat (first | (with_reducible first | exact HB.out | apply below_alloc | apply pw_below_drewN | apply below_drew1) | exact HB.out)) hb); clear HB; have HO139 := n0_; have HB := n1_; clear n0_ n1_; (try clear hb); (try clear hb2); (try clear hk); (try clear hi); (try clear ho0)) | ((with_reducible refine gate_callee (f := 25) rfl ?_); refine goesL_ (some 27) rfl rfl Try.func25 (by kernel_rfl) rfl #[.string (a0.extract (t137 : Int).toNat a0.size)] rfl (by (try simp only [List.map_toArray, List.map_cons, List.map_nil]); first | done | rfl | (simp only [List.length_drop, List.length_take]; rfl)) ?_; (with_reducible refine (frame_One.calls k (a0.extract (t137 : Int).toNat a0.size) t140 t141 t142 t143 t144 _ A9.out).mono ?_); rintro e w16 ⟨rfl, hb⟩; refine ⟨_, rfl, ?_⟩; have n0_ := Aside0.mk (Kd.R_below (by (with_reducible repeat (first | apply Kd.R_alloc | apply Kd.R_drewN | apply Kd.R_drew)); exact HO139.out) hb); have n1_ := Aside0.mk (below_step (by repeat (first | (with_reducible first | exact HB.out | apply below_alloc | apply pw_below_drewN | apply below_drew1) | exact HB.out)) hb); clear HO139; clear HB; have HO139 := n0_; have HB := n1_; clear n0_ n1_; (try clear hb); (try clear hb2); (try clear hk); (try clear hi)) | ((with_reducible refine gate_dst (N := 9) rfl ?_); refine box_event ?hg (N := 9) ?hd (cs := #[.int .i64 0, .int .i64 0, .string (⟨#[]⟩ : ByteArray)]) (t := 39) ?hr ?_; (case hd => rfl); (case hg => rfl); (case hr => first | (go_simp; done) | (go_simp; rfl)); intro gb145 hg w17 hbox hb; have n0_ := Aside0.mk (Kd.R_below (Kd.R_elderB (by (with_reducible repeat (first | apply Kd.R_alloc | apply Kd.R_drewN | apply Kd.R_drew)); exact HO139.out) gb145 (Nat.le_of_eq hg.symm)) hb); have n1_ := Aside0.mk (below_step (by repeat (first | (with_reducible first | exact HB.out | apply below_alloc | apply pw_below_drewN | apply below_drew1) | exact HB.out)) hb); have n2_ := Aside0.mk (hbox); have n3_ := Aside0.mk ((by rw [hg]; exact (below_size (by repeat (first | (with_reducible first | exact HB.out | apply below_alloc | apply pw_below_drewN | apply below_drew1) | exact HB.out))) : w.heap.size ≤ gb145)); have n4_ := Aside0.mk ((by rw [hg]; exact (below_size (by repeat (first | (with_reducible first | exact HB.out | apply below_alloc | apply pw_below_drewN | apply below_drew1) | exact HB.out))) : w.heap.size ≤ gb145)); clear HO139; clear HB; have HO139 := n0_; have HB := n1_; have BK145 := n2_; have GW145 := n3_; have GE145 := n4_; clear n0_ n1_ n2_ n3_ n4_; clear hb hbox hg; have hcz18_0 : w17.cell? ⟨gb145, 0, none⟩ = some (.int .i64 0) := (blk_cell BK145.out 0).trans rfl; have hcz18_1 : w17.cell? ⟨gb145, 1, none⟩ = some (.int .i64 0) := (blk_cell BK145.out 1).trans rfl; have hcz18_2 : w17.cell? ⟨gb145, 2, none⟩ = some (.string (⟨#[]⟩ : ByteArray)) := (blk_cell BK145.out 2).trans rfl; have hfz18_0 := blk_frozen BK145.out 0; have hfz18_1 := blk_frozen BK145.out 1; have hfz18_2 := blk_frozen BK145.out 2))
          go_ret
          exact ⟨by first | rfl | (simp [errW_none, errW_some] <;> rfl) | (simp [*, errW_none, errW_some] <;> rfl), by repeat (first | (with_reducible first | exact HB.out | apply below_alloc | apply pw_below_drewN | apply below_drew1 | refine below_set ?_ GE145.out) | exact HB.out)⟩
      · rw [if_neg c8] at H
        exact absurd H (by simp)
    · rw [if_neg c7] at H
      exact absurd H (by simp)

/-! ### stylusref13_Fill: function 19 -/
def stylusref13_Fill.l0 : Nat → Int → ByteArray → Int → Option (ByteArray)
  | 0, _, _, _ => none
  | k + 1, x0, x3, x4 => if x4 < x0 then (if x4 < 32 then (if x3.size + 1 ≤ 9223372036854775807 then (stylusref13_Fill.l0 k x0 (x3 ++ (⟨#[255]⟩ : ByteArray)) (wrap64 (x4 + 1))) else (none)) else (some x3)) else (some x3)
def stylusref13_Fill.f (k : Nat) (a0 : Int) : Option (ByteArray) := stylusref13_Fill.l0 k a0 (⟨#[]⟩ : ByteArray) 0
theorem stylusref13_Fill.mono_l : ∀ k, (∀ y0 y1 y2, LeO (stylusref13_Fill.l0 k y0 y1 y2) (stylusref13_Fill.l0 (k + 1) y0 y1 y2))
  | 0 => fun _ _ _ r h => by simp [stylusref13_Fill.l0] at h
  | k + 1 => by
    have ih0 := stylusref13_Fill.mono_l k
    · intro y0 y1 y2
      unfold stylusref13_Fill.l0
      repeat' first
      | (with_reducible exact ih0 _ _ _)
      | (with_reducible exact LeO.refl _)
      | (with_reducible exact LeO.none _)
      | (with_reducible refine LeO.ite ?_ ?_)
      | (with_reducible refine LeO.bind ?_ (fun _ => ?_))
      | exact ih0 _ _ _
      | exact LeO.none _
      | refine LeO.ite ?_ ?_
      | refine LeO.bind ?_ (fun _ => ?_)
theorem stylusref13_Fill.mono : ∀ a0 k, LeO (stylusref13_Fill.f k a0) (stylusref13_Fill.f (k + 1) a0) := by
  intro a0 k
  have ih0 := stylusref13_Fill.mono_l k
  unfold stylusref13_Fill.f
  repeat' first
      | (with_reducible exact ih0 _ _ _)
      | (with_reducible exact LeO.refl _)
      | (with_reducible exact LeO.none _)
      | (with_reducible refine LeO.ite ?_ ?_)
      | (with_reducible refine LeO.bind ?_ (fun _ => ?_))
      | exact ih0 _ _ _
      | exact LeO.none _
      | refine LeO.ite ?_ ?_
      | refine LeO.bind ?_ (fun _ => ?_)
set_option maxHeartbeats 8000000 in
set_option maxRecDepth 100000 in
theorem stylusref13_Fill.calls (k : Nat) (a0 : Int) (r : ByteArray) (w : World) (h : stylusref13_Fill.f k a0 = some r) :
    Calls Try.prog 19 #[.int .i64 a0] w fun e w' => e = .returned (.string r) ∧ Drawn0 w w' := by
  have H : (stylusref13_Fill.l0 k a0 (⟨#[]⟩ : ByteArray) 0) = some r := h
  clear h
  have H' := Aside0.mk H
  clear H
  go_enter Try.func19, Try.ntmps19
  go_wp2
  go_loopg [3, 4] k (fun kq v3 v4 w' => ∃ (x3_1 : ByteArray) (x4_1 : Int), v3 = .string x3_1 ∧ v4 = .int .i64 x4_1 ∧ Aside0 (stylusref13_Fill.l0 kq a0 x3_1 x4_1 = some r) ∧ Aside0 (kq ≤ k) ∧ Drawn0 w w')
  case atStart => exact ⟨((⟨#[]⟩ : ByteArray)), (0), (by first | rfl | (simp; done) | (simp [*]; done)), (by first | rfl | (simp; done) | (simp [*]; done)), H', ⟨Nat.le_refl _⟩, by repeat (first | exact Drawn0.refl _ | apply Drawn0.step)⟩
  case round =>
    clear H'
    try clear c1
    obtain ⟨x3_1, x4_1, rfl, rfl, HA, HK1, ⟨m1, rfl⟩⟩ := hrel
    cases gk with
    | zero => exact absurd HA.out (by simp [stylusref13_Fill.l0])
    | succ k1 =>
      have H := HA.out
      clear HA
      simp only [stylusref13_Fill.l0] at H
      by_cases c2 : x4_1 < a0
      · rw [if_pos c2] at H
        have c2b0 : decide (x4_1 < a0) = true := decide_eq_true c2
        clear c2
        by_cases c3 : x4_1 < 32
        · rw [if_pos c3] at H
          have c3b0 : decide (x4_1 < 32) = true := decide_eq_true c3
          clear c3
          by_cases c4 : x3_1.size + 1 ≤ 9223372036854775807
          · rw [if_pos c4] at H
            have c4b0 := eq_true c4
            have c4b1 : decide (x3_1.size + 1 ≤ 9223372036854775807) = true := decide_eq_true c4
            try have c4b2 : (9223372036854775807 < x3_1.size + 1) = False := eq_false (Nat.not_lt.2 c4)
            have H' := Aside0.mk H
            clear H
            go_wp2
            go_roundg k1
            case measure => have := HK1.out; omega
            case rel => exact ⟨(x3_1 ++ (⟨#[255]⟩ : ByteArray)), (wrap64 (x4_1 + 1)), (by first | rfl | (simp; done) | (simp [*]; done)), (by first | rfl | (simp; done) | (simp [*]; done)), H', ⟨by have := HK1.out; omega⟩, by repeat (first | exact Drawn0.refl _ | apply Drawn0.step)⟩
          · rw [if_neg c4] at H
            exact absurd H (by simp)
        · rw [if_neg c3] at H
          have c3b0 : decide (x4_1 < 32) = false := decide_eq_false c3
          clear c3
          obtain rfl := Option.some.inj H
          go_wp2
          go_ret
          exact ⟨by first | rfl | (simp; done) | (simp [*]; done), by repeat (first | exact Drawn0.refl _ | apply Drawn0.step)⟩
      · rw [if_neg c2] at H
        have c2b0 : decide (x4_1 < a0) = false := decide_eq_false c2
        clear c2
        obtain rfl := Option.some.inj H
        go_wp2
        go_ret
        exact ⟨by first | rfl | (simp; done) | (simp [*]; done), by repeat (first | exact Drawn0.refl _ | apply Drawn0.step)⟩

/-! ### stylusref03_put: function 38 -/
def stylusref03_put.l0 : Nat → Int → List Int → Int → Int → Option (ByteArray)
  | 0, _, _, _, _ => none
  | k + 1, x1, x5, x6, x7 => if x7 < x1 then (if x5.length < 140737488355328 then (stylusref03_put.l0 k x1 (x5 ++ [(Int.tmod x6 256) % 256]) (IntKind.u64.wrap (Int.tdiv x6 256)) (wrap64 (x7 + 1))) else (none)) else (some (strOfNums x5))
def stylusref03_put.f (k : Nat) (a0 : Int) (a1 : Int) : Option (ByteArray) := stylusref03_put.l0 k a1 ([] : List Int) (IntKind.u64.wrap (a0)) 0
theorem stylusref03_put.mono_l : ∀ k, (∀ y0 y1 y2 y3, LeO (stylusref03_put.l0 k y0 y1 y2 y3) (stylusref03_put.l0 (k + 1) y0 y1 y2 y3))
  | 0 => fun _ _ _ _ r h => by simp [stylusref03_put.l0] at h
  | k + 1 => by
    have ih0 := stylusref03_put.mono_l k
    · intro y0 y1 y2 y3
      unfold stylusref03_put.l0
      repeat' first
      | (with_reducible exact ih0 _ _ _ _)
      | (with_reducible exact LeO.refl _)
      | (with_reducible exact LeO.none _)
      | (with_reducible refine LeO.ite ?_ ?_)
      | (with_reducible refine LeO.bind ?_ (fun _ => ?_))
      | exact ih0 _ _ _ _
      | exact LeO.none _
      | refine LeO.ite ?_ ?_
      | refine LeO.bind ?_ (fun _ => ?_)
theorem stylusref03_put.mono : ∀ a0 a1 k, LeO (stylusref03_put.f k a0 a1) (stylusref03_put.f (k + 1) a0 a1) := by
  intro a0 a1 k
  have ih0 := stylusref03_put.mono_l k
  unfold stylusref03_put.f
  repeat' first
      | (with_reducible exact ih0 _ _ _ _)
      | (with_reducible exact LeO.refl _)
      | (with_reducible exact LeO.none _)
      | (with_reducible refine LeO.ite ?_ ?_)
      | (with_reducible refine LeO.bind ?_ (fun _ => ?_))
      | exact ih0 _ _ _ _
      | exact LeO.none _
      | refine LeO.ite ?_ ?_
      | refine LeO.bind ?_ (fun _ => ?_)
set_option maxHeartbeats 8000000 in
set_option maxRecDepth 100000 in
theorem stylusref03_put.calls (k : Nat) (a0 : Int) (a1 : Int) (r : ByteArray) (w : World) (h : stylusref03_put.f k a0 a1 = some r) :
    Calls Try.prog 38 #[.int .i64 a0, .int .i64 a1] w fun e w' => e = .returned (.string r) ∧ Below w.heap.size w w' := by
  have HB := Aside0.mk (Below.refl w.heap.size w)
  have H : (stylusref03_put.l0 k a1 ([] : List Int) (IntKind.u64.wrap (a0)) 0) = some r := h
  clear h
  have H' := Aside0.mk H
  clear H
  go_enter Try.func38, Try.ntmps38
  go_wp2
  go_loopg [5, 6, 7] k (fun kq v5 v6 v7 w' => ∃ (x5_1 : List Int) (x6_1 : Int) (x7_1 : Int), v6 = .int .u64 x6_1 ∧ v7 = .int .i64 x7_1 ∧ Aside0 (stylusref03_put.l0 kq a1 x5_1 x6_1 x7_1 = some r) ∧ Aside0 (kq ≤ k) ∧ Aside0 (Kd.R (Kd.int .u8) 5 w' w.heap.size (fun _ => True) v5 x5_1) ∧ Aside0 (Below w.heap.size w w'))
  case atStart => exact ⟨(([] : List Int)), (IntKind.u64.wrap (a0)), (0), (by first | rfl | (simp; done) | (simp [*]; done)), (by first | rfl | (simp; done) | (simp [*]; done)), H', ⟨Nat.le_refl _⟩, ⟨by first | exact Kd.R_nil _ _ _ _ _ | exact Kd.N_nil _ _ _ _ _ | exact Kd.V_nil _ _ _ _ _ | exact Kd.Q_nil _ _ _ _ _ | exact Kd.S_nil _ _ _ _ _⟩, ⟨by repeat (first | (with_reducible first | exact HB.out | apply below_alloc | apply pw_below_drewN | apply below_drew1) | exact HB.out)⟩⟩
  case round =>
    clear H'
    try clear p2
    obtain ⟨x5_1, x6_1, x7_1, rfl, rfl, HA, HK1, HO_5, HB⟩ := hrel
    cases gk with
    | zero => exact absurd HA.out (by simp [stylusref03_put.l0])
    | succ k1 =>
      have H := HA.out
      clear HA
      simp only [stylusref03_put.l0] at H
      by_cases c3 : x7_1 < a1
      · rw [if_pos c3] at H
        have c3b0 : decide (x7_1 < a1) = true := decide_eq_true c3
        clear c3
        by_cases c4 : x5_1.length < 140737488355328
        · rw [if_pos c4] at H
          have LMc4 := Aside0.mk c4
          clear c4
          obtain ⟨y146, hy146⟩ : ∃ y_ : List Int, y_ = (x5_1 ++ [(Int.tmod x6_1 256) % 256]) := ⟨_, rfl⟩
          replace H : (stylusref03_put.l0 k1 a1 y146 (IntKind.u64.wrap (Int.tdiv x6_1 256)) (wrap64 (x7_1 + 1))) = some r := by first | (rw [hy146]; with_reducible exact H) | (have H2_ := (Option.bind_some _ _).symm.trans H; rw [hy146]; with_reducible exact H2_) | (have H2_ := (Option.bind_some _ _).symm.trans H; with_reducible exact H2_) | with_reducible exact H | (rw [hy146]; exact H) | exact H
          have Ny146 := Aside0.mk hy146
          clear hy146
          have H' := Aside0.mk H
          clear H
          go_wp2_with (first | ((with_reducible refine gate_builtin (b := .append) (xs := #[.tmp 15, .tmp 19]) rfl ?_); at_builtin; refine Kd.R_append (Kd.int .u8) (w0 := w) w.heap.size rfl (.tmp 15) (.tmp 19) 45 5 (.int .u8 0) 1 rfl Try.underlying45 info5 rfl (by decide) (by omega) u5 x5_1 ((Int.tmod x6_1 256) % 256) [.int .u8 ((Int.tmod x6_1 256) % 256)] (fun _ => True) (fun _ => False) rfl rfl ?aP (fun _ hk => hk.elim) ?aF ?aO ?aB ?aS ?aL ?_; (case aP => exact rfl); (case aB => exact (by repeat (first | (with_reducible first | exact HB.out | apply below_alloc | apply pw_below_drewN | apply below_drew1) | exact HB.out))); (case aF => exact (fun _ _ => trivial)); (case aO => exact (by (with_reducible repeat (first | apply Kd.R_alloc | apply Kd.R_drewN | apply Kd.R_drew)); exact HO_5.out)); (case aS => exact (below_size (by repeat (first | (with_reducible first | exact HB.out | apply below_alloc | apply pw_below_drewN | apply below_drew1) | exact HB.out)))); (case aL => have := LMc4.out; omega); intro v147 w5 ho hb hg hat; rw [← Ny146.out] at ho; have n0_ := Aside0.mk (hb); have n1_ := Aside0.mk (ho); clear HB; clear HO_5; have HB := n0_; have HO148 := n1_; clear n0_ n1_; clear ho hb hg hat))
          go_roundg k1
          case measure => have := HK1.out; omega
          case rel => exact ⟨(y146), (IntKind.u64.wrap (Int.tdiv x6_1 256)), (wrap64 (x7_1 + 1)), (by first | rfl | (simp; done) | (simp [*]; done)), (by first | rfl | (simp; done) | (simp [*]; done)), H', ⟨by have := HK1.out; omega⟩, ⟨by (with_reducible repeat (first | apply Kd.R_alloc | apply Kd.R_drewN | apply Kd.R_drew)); exact HO148.out⟩, ⟨by repeat (first | (with_reducible first | exact HB.out | apply below_alloc | apply pw_below_drewN | apply below_drew1) | exact HB.out)⟩⟩
        · rw [if_neg c4] at H
          exact absurd H (by simp)
      · rw [if_neg c3] at H
        have c3b0 : decide (x7_1 < a1) = false := decide_eq_false c3
        clear c3
        obtain rfl := Option.some.inj H
        have hcv6 := own_string (P := Try.prog) Try.underlying45 Try.underlying5 Try.underlying9 (Kd.own_of_R HO_5.out)
        go_wp2
        go_ret
        exact ⟨by first | rfl | (simp [errW_none, errW_some] <;> rfl) | (simp [*, errW_none, errW_some] <;> rfl), by repeat (first | (with_reducible first | exact HB.out | apply below_alloc | apply pw_below_drewN | apply below_drew1) | exact HB.out)⟩

/-! ### stylusref03_Put16: function 26 -/
def stylusref03_Put16.f (k : Nat) (a0 : Int) : Option (ByteArray) := (stylusref03_put.f k a0 2).bind fun t149 => (some t149)
theorem stylusref03_Put16.mono : ∀ a0 k, LeO (stylusref03_Put16.f k a0) (stylusref03_Put16.f (k + 1) a0) := by
  intro a0 k
  unfold stylusref03_Put16.f
  repeat' first
      | (with_reducible exact stylusref03_put.mono _ _ _)
      | (with_reducible exact LeO.refl _)
      | (with_reducible exact LeO.none _)
      | (with_reducible refine LeO.ite ?_ ?_)
      | (with_reducible refine LeO.bind ?_ (fun _ => ?_))
      | exact stylusref03_put.mono _ _ _
      | exact LeO.none _
      | refine LeO.ite ?_ ?_
      | refine LeO.bind ?_ (fun _ => ?_)
set_option maxHeartbeats 8000000 in
set_option maxRecDepth 100000 in
theorem stylusref03_Put16.calls (k : Nat) (a0 : Int) (r : ByteArray) (w : World) (h : stylusref03_Put16.f k a0 = some r) :
    Calls Try.prog 26 #[.int .i64 a0] w fun e w' => e = .returned (.string r) ∧ Below w.heap.size w w' := by
  have HB := Aside0.mk (Below.refl w.heap.size w)
  have H : ((stylusref03_put.f k a0 2).bind fun t149 => (some t149)) = some r := h
  clear h
  replace H := Option.bind_eq_some_iff.mp H
  obtain ⟨t149, A20, H⟩ := H
  replace H : (some t149) = some r := H
  have A2 := Aside0.mk A20
  clear A20
  obtain rfl := Option.some.inj H
  go_enter Try.func26, Try.ntmps26
  go_wp2_with (first | ((with_reducible refine gate_callee (f := 38) rfl ?_); refine goesL_ (some 4) rfl rfl Try.func38 (by kernel_rfl) rfl #[.int .i64 a0, .int .i64 2] rfl (by (try simp only [List.map_toArray, List.map_cons, List.map_nil]); first | done | rfl | (simp only [List.length_drop, List.length_take]; rfl)) ?_; (with_reducible refine (stylusref03_put.calls k a0 2 t149 _ A2.out).mono ?_); rintro e w3 ⟨rfl, hb⟩; refine ⟨_, rfl, ?_⟩; have n0_ := Aside0.mk (below_step (by repeat (first | (with_reducible first | exact HB.out | apply below_alloc | apply pw_below_drewN | apply below_drew1) | exact HB.out)) hb); clear HB; have HB := n0_; clear n0_; (try clear hb); (try clear hb2); (try clear hk); (try clear hi)))
  go_ret
  exact ⟨by first | rfl | (simp [errW_none, errW_some] <;> rfl) | (simp [*, errW_none, errW_some] <;> rfl), by repeat (first | (with_reducible first | exact HB.out | apply below_alloc | apply pw_below_drewN | apply below_drew1) | exact HB.out)⟩

/-! ### stylusref03_Put32: function 27 -/
def stylusref03_Put32.f (k : Nat) (a0 : Int) : Option (ByteArray) := (stylusref03_put.f k a0 4).bind fun t150 => (some t150)
theorem stylusref03_Put32.mono : ∀ a0 k, LeO (stylusref03_Put32.f k a0) (stylusref03_Put32.f (k + 1) a0) := by
  intro a0 k
  unfold stylusref03_Put32.f
  repeat' first
      | (with_reducible exact stylusref03_put.mono _ _ _)
      | (with_reducible exact LeO.refl _)
      | (with_reducible exact LeO.none _)
      | (with_reducible refine LeO.ite ?_ ?_)
      | (with_reducible refine LeO.bind ?_ (fun _ => ?_))
      | exact stylusref03_put.mono _ _ _
      | exact LeO.none _
      | refine LeO.ite ?_ ?_
      | refine LeO.bind ?_ (fun _ => ?_)
set_option maxHeartbeats 8000000 in
set_option maxRecDepth 100000 in
theorem stylusref03_Put32.calls (k : Nat) (a0 : Int) (r : ByteArray) (w : World) (h : stylusref03_Put32.f k a0 = some r) :
    Calls Try.prog 27 #[.int .i64 a0] w fun e w' => e = .returned (.string r) ∧ Below w.heap.size w w' := by
  have HB := Aside0.mk (Below.refl w.heap.size w)
  have H : ((stylusref03_put.f k a0 4).bind fun t150 => (some t150)) = some r := h
  clear h
  replace H := Option.bind_eq_some_iff.mp H
  obtain ⟨t150, A20, H⟩ := H
  replace H : (some t150) = some r := H
  have A2 := Aside0.mk A20
  clear A20
  obtain rfl := Option.some.inj H
  go_enter Try.func27, Try.ntmps27
  go_wp2_with (first | ((with_reducible refine gate_callee (f := 38) rfl ?_); refine goesL_ (some 4) rfl rfl Try.func38 (by kernel_rfl) rfl #[.int .i64 a0, .int .i64 4] rfl (by (try simp only [List.map_toArray, List.map_cons, List.map_nil]); first | done | rfl | (simp only [List.length_drop, List.length_take]; rfl)) ?_; (with_reducible refine (stylusref03_put.calls k a0 4 t150 _ A2.out).mono ?_); rintro e w3 ⟨rfl, hb⟩; refine ⟨_, rfl, ?_⟩; have n0_ := Aside0.mk (below_step (by repeat (first | (with_reducible first | exact HB.out | apply below_alloc | apply pw_below_drewN | apply below_drew1) | exact HB.out)) hb); clear HB; have HB := n0_; clear n0_; (try clear hb); (try clear hb2); (try clear hk); (try clear hi)))
  go_ret
  exact ⟨by first | rfl | (simp [errW_none, errW_some] <;> rfl) | (simp [*, errW_none, errW_some] <;> rfl), by repeat (first | (with_reducible first | exact HB.out | apply below_alloc | apply pw_below_drewN | apply below_drew1) | exact HB.out)⟩

/-! ### stylusref02_Step: function 47 -/
def stylusref02_Step.l0 : Nat → Int → Int → Option (Int)
  | 0, _, _ => none
  | k + 1, x0, x5 => if x5 < 8 then (if (Int.tmod x0 2) = 1 then (stylusref02_Step.l0 k (Go.bits .xor .u32 ((Int.tdiv x0 2) % 4294967296) 3988292384) (wrap64 (x5 + 1))) else (stylusref02_Step.l0 k ((Int.tdiv x0 2) % 4294967296) (wrap64 (x5 + 1)))) else (some x0)
def stylusref02_Step.f (k : Nat) (a0 : Int) (a1 : Int) : Option (Int) := stylusref02_Step.l0 k (Go.bits .xor .u32 a0 ((a1) % 4294967296)) 0
theorem stylusref02_Step.mono_l : ∀ k, (∀ y0 y1, LeO (stylusref02_Step.l0 k y0 y1) (stylusref02_Step.l0 (k + 1) y0 y1))
  | 0 => fun _ _ r h => by simp [stylusref02_Step.l0] at h
  | k + 1 => by
    have ih0 := stylusref02_Step.mono_l k
    · intro y0 y1
      unfold stylusref02_Step.l0
      repeat' first
      | (with_reducible exact ih0 _ _)
      | (with_reducible exact LeO.refl _)
      | (with_reducible exact LeO.none _)
      | (with_reducible refine LeO.ite ?_ ?_)
      | (with_reducible refine LeO.bind ?_ (fun _ => ?_))
      | exact ih0 _ _
      | exact LeO.none _
      | refine LeO.ite ?_ ?_
      | refine LeO.bind ?_ (fun _ => ?_)
theorem stylusref02_Step.mono : ∀ a0 a1 k, LeO (stylusref02_Step.f k a0 a1) (stylusref02_Step.f (k + 1) a0 a1) := by
  intro a0 a1 k
  have ih0 := stylusref02_Step.mono_l k
  unfold stylusref02_Step.f
  repeat' first
      | (with_reducible exact ih0 _ _)
      | (with_reducible exact LeO.refl _)
      | (with_reducible exact LeO.none _)
      | (with_reducible refine LeO.ite ?_ ?_)
      | (with_reducible refine LeO.bind ?_ (fun _ => ?_))
      | exact ih0 _ _
      | exact LeO.none _
      | refine LeO.ite ?_ ?_
      | refine LeO.bind ?_ (fun _ => ?_)
set_option maxHeartbeats 8000000 in
set_option maxRecDepth 100000 in
theorem stylusref02_Step.calls (k : Nat) (a0 : Int) (a1 : Int) (r : Int) (w : World) (h : stylusref02_Step.f k a0 a1 = some r) :
    Calls Try.prog 47 #[.int .u32 a0, .int .u8 a1] w fun e w' => e = .returned (.int .u32 r) ∧ Drawn0 w w' := by
  have H : (stylusref02_Step.l0 k (Go.bits .xor .u32 a0 ((a1) % 4294967296)) 0) = some r := h
  clear h
  have H' := Aside0.mk H
  clear H
  go_enter Try.func47, Try.ntmps47
  go_wp2
  go_loopg [0, 5] k (fun kq v0 v5 w' => ∃ (x0_1 : Int) (x5_1 : Int), v0 = .int .u32 x0_1 ∧ v5 = .int .i64 x5_1 ∧ Aside0 (stylusref02_Step.l0 kq x0_1 x5_1 = some r) ∧ Aside0 (kq ≤ k) ∧ Drawn0 w w')
  case atStart => exact ⟨(Go.bits .xor .u32 a0 ((a1) % 4294967296)), (0), (by first | rfl | (simp; done) | (simp [*]; done)), (by first | rfl | (simp; done) | (simp [*]; done)), H', ⟨Nat.le_refl _⟩, by repeat (first | exact Drawn0.refl _ | apply Drawn0.step)⟩
  case round =>
    clear H'
    try clear p2
    obtain ⟨x0_1, x5_1, rfl, rfl, HA, HK1, ⟨m1, rfl⟩⟩ := hrel
    cases gk with
    | zero => exact absurd HA.out (by simp [stylusref02_Step.l0])
    | succ k1 =>
      have H := HA.out
      clear HA
      simp only [stylusref02_Step.l0] at H
      by_cases c3 : x5_1 < 8
      · rw [if_pos c3] at H
        have c3b0 : decide (x5_1 < 8) = true := decide_eq_true c3
        clear c3
        by_cases c4 : (Int.tmod x0_1 2) = 1
        · rw [if_pos c4] at H
          have c4b0 : ((Int.tmod x0_1 2) == 1) = true := beq_iff_eq.mpr c4
          have c4b1 : ((Int.tmod x0_1 2) != 1) = false := bne_eq_false_iff_eq.mpr c4
          clear c4
          have H' := Aside0.mk H
          clear H
          go_wp2
          go_roundg k1
          case measure => have := HK1.out; omega
          case rel => exact ⟨(Go.bits .xor .u32 ((Int.tdiv x0_1 2) % 4294967296) 3988292384), (wrap64 (x5_1 + 1)), (by first | rfl | (simp; done) | (simp [*]; done)), (by first | rfl | (simp; done) | (simp [*]; done)), H', ⟨by have := HK1.out; omega⟩, by repeat (first | exact Drawn0.refl _ | apply Drawn0.step)⟩
        · rw [if_neg c4] at H
          have c4b0 : ((Int.tmod x0_1 2) == 1) = false := beq_eq_false_iff_ne.mpr c4
          have c4b1 : ((Int.tmod x0_1 2) != 1) = true := bne_iff_ne.mpr c4
          have H' := Aside0.mk H
          clear H
          go_wp2
          go_roundg k1
          case measure => have := HK1.out; omega
          case rel => exact ⟨((Int.tdiv x0_1 2) % 4294967296), (wrap64 (x5_1 + 1)), (by first | rfl | (simp; done) | (simp [*]; done)), (by first | rfl | (simp; done) | (simp [*]; done)), H', ⟨by have := HK1.out; omega⟩, by repeat (first | exact Drawn0.refl _ | apply Drawn0.step)⟩
      · rw [if_neg c3] at H
        have c3b0 : decide (x5_1 < 8) = false := decide_eq_false c3
        clear c3
        obtain rfl := Option.some.inj H
        go_wp2
        go_ret
        exact ⟨by first | rfl | (simp; done) | (simp [*]; done), by repeat (first | exact Drawn0.refl _ | apply Drawn0.step)⟩

end Go.Proofs.Ytinoidkmobmcpaa.P
