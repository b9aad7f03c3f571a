-- Laid by a program of this session (wip/tools/fork_print.py over the kit's print) out of Lean's print of the translation. Lean checks it.
import Derived.Test.YtgcilgjkihmclaaDoorPx0
import Derived.Test.YtgcilgjkihmclaaDoorPx1
import Derived.Test.YtgcilgjkihmclaaDoorPx2
namespace Go.Proofs.YtgcilgjkihmclaaDoor.P
open Go.RowKit Go.Proofs.YtgcilgjkihmclaaDoorW.PrintWords Go.Proofs.YtgcilgjkihmclaaDoorW.PrintLast Go.Proofs.YtgcilgjkihmclaaDoorW.PrintMore
attribute [local go_sem] max2_int min2_int max_two min_two max_three min_three max_four min_four   -- for this text's walks alone
set_option linter.unusedVariables false
set_option linter.unusedSimpArgs false

/-! ### hunks_Diff: function 13 -/
-- NEEDS stylus/hunks.many stylus/hunks.Match
-- what lies between two texts: a closure that ends a hunk (printed by wip/tools/gen_diff.py)
def dfOne (b : List ByteArray) (a s i j : Nat) : List S29 := if a < i ∨ s < j then [⟨(a : Int), (i : Int) - (a : Int), (b.take j).drop s⟩] else []
theorem dfOne_len (b : List ByteArray) (a s i j : Nat) : (dfOne b a s i j).length ≤ 1 := by unfold dfOne; split <;> simp
/-- The matches rise, and lie within. -/
def Rise (lb : Nat) : List Int → Nat → Prop
  | [], s => s ≤ lb
  | j :: m, s => if 0 ≤ j then (s ≤ j.toNat ∧ j.toNat < lb ∧ Rise lb m (j.toNat + 1)) else Rise lb m s
def dfL (b : List ByteArray) : List Int → Nat → Nat → Nat → List S29
  | [], i, a, s => dfOne b a s i b.length
  | j :: m, i, a, s => if 0 ≤ j then dfOne b a s i j.toNat ++ dfL b m (i + 1) (i + 1) (j.toNat + 1) else dfL b m (i + 1) a s
def diffL (a b : List ByteArray) : List S29 := dfL b (mt a b 0) 0 0 0
theorem rise_none (lb : Nat) : ∀ (n : Nat) (s : Nat), s ≤ lb → Rise lb (List.replicate n (-1)) s
  | 0, s, h => h
  | n + 1, s, h => by
    rw [List.replicate_succ, Rise, if_neg (by omega)]
    exact rise_none lb n s h
theorem mt_rise : ∀ (a b : List ByteArray) (j lb : Nat), j + b.length = lb → Rise lb (mt a b (j : Int)) j
  | [], _, j, lb, h => by show j ≤ lb; omega
  | x :: a, [], j, lb, h => by rw [mt_end]; exact rise_none lb _ j (by simp at h; omega)
  | x :: a, y :: b, j, lb, h => by
    rw [List.length_cons] at h
    rw [mt_cons]
    split
    · rw [Rise, if_pos (Int.natCast_nonneg _)]
      have h2 := mt_rise a b (j + 1) lb (by omega)
      simp only [Int.toNat_natCast]
      exact ⟨Nat.le_refl _, by omega, h2⟩
    · split
      · rw [Rise, if_neg (by omega)]
        exact mt_rise a (y :: b) j lb (by rw [List.length_cons]; omega)
      · have h2 := mt_rise (x :: a) b (j + 1) lb (by omega)
        have : ∀ (m : List Int) (s s' : Nat), s' ≤ s → Rise lb m s → Rise lb m s' := by
          intro m
          induction m with
          | nil => intro s s' h h2; exact Nat.le_trans h h2
          | cons q m ih =>
            intro s s' h h2
            rw [Rise] at h2 ⊢
            split
            · rename_i h3
              rw [if_pos h3] at h2
              exact ⟨Nat.le_trans h h2.1, h2.2⟩
            · rename_i h3
              rw [if_neg h3] at h2
              exact ih s s' h h2
        exact this _ _ _ (Nat.le_succ _) h2
structure DSt (w : World) (P : Nat → Prop) (A1 : Option Addr) (c1 lb : Nat) (b : List ByteArray) (go : Nat) (q : Nat) (o : Option Obj) (v : Value) (out : List S29) (W : World) : Prop where
  gt : w.heap.size < go
  lt : go + 3 ≤ W.heap.size
  pl : ∀ k, P k → k < w.heap.size
  bx : W.heap[w.heap.size]? = some (.cells #[.slice A1 lb c1] 22 (0, 0))
  row : Kd.N k29 29 W (go + 3) (fun k => P k ∨ (go + 3 ≤ k ∧ k ≠ q)) v out
  ql : q < W.heap.size
  qn : ∀ x, o = some x → go + 3 ≤ q
  pr : ∀ x, o = some x → W.heap[q]? = some x
  src : Kd.F Kd.string W P A1 lb b
  low : Below w.heap.size w W
theorem DSt.set {w W : World} {P : Nat → Prop} {A1 : Option Addr} {c1 lb go q : Nat} {o : Option Obj} {b : List ByteArray} {v : Value} {out : List S29} (h : DSt w P A1 c1 lb b go q o v out W) (x : Nat) (h0 : go ≤ x) (h1 : x < go + 3) (j : Nat) (u : Value) : DSt w P A1 c1 lb b go q o v out (W.setCell ⟨x, j, none⟩ u) :=
  ⟨h.gt, by have := h.lt; simpa using this, h.pl, blk_far h.bx (by have := h.gt; simp; omega) u, Kd.N_far h.row (p := ⟨x, j, none⟩) (fun k hk => by rcases hk with hk | hk; (have := h.pl k hk; have := h.gt; simp; omega); (have := hk.1; simp; omega)) u, by simpa using h.ql, h.qn, fun z hz => (Below.heap_setCell _ _ _ _ (by have := h.qn z hz; simp; omega)).trans (h.pr z hz), Kd.F_far h.src (p := ⟨x, j, none⟩) (fun k hk => by have := h.pl k hk; have := h.gt; simp; omega) u, h.low.setCell (p := ⟨x, j, none⟩) (by have := h.gt; simp; omega) u⟩
theorem DSt.below {w W W' : World} {P : Nat → Prop} {A1 : Option Addr} {c1 lb go q : Nat} {o : Option Obj} {b : List ByteArray} {v : Value} {out : List S29} (h : DSt w P A1 c1 lb b go q o v out W) (hb : Below W.heap.size W W') : DSt w P A1 c1 lb b go q o v out W' :=
  ⟨h.gt, Nat.le_trans h.lt hb.size, h.pl, blk_below h.bx hb, Kd.N_below h.row hb, Nat.lt_of_lt_of_le h.ql hb.size, h.qn, fun z hz => (hb.block _ h.ql).trans (h.pr z hz), Kd.F_below h.src hb, below_step h.low hb⟩
theorem DSt.drew {w W : World} {P : Nat → Prop} {A1 : Option Addr} {c1 lb go q : Nat} {o : Option Obj} {b : List ByteArray} {v : Value} {out : List S29} (h : DSt w P A1 c1 lb b go q o v out W) : DSt w P A1 c1 lb b go q o v out W.drew := h.below (below_drew (Below.refl _ _))
theorem diff_info : (Tryd.prog.info? 29).map (fun i => (i.zero, i.size, i.bytes)) = some (some (.agg #[.int .i64 0, .int .i64 0, .slice none 0 0]), 3, 40) := by kernel_rfl
theorem diff_infoS : (Tryd.prog.info? 9).map (fun i => (i.zero, i.size, i.bytes)) = some (some (.string ⟨#[]⟩), 1, 16) := by kernel_rfl
theorem diff_cut (P : Nat → Prop) (A1 : Option Addr) (c1 lb s j : Nat) (b : List ByteArray) (W : World) (h : Kd.F Kd.string W P A1 lb b) (hs : s ≤ j) (hj : j ≤ lb) (hc : lb ≤ c1) :
    ∃ A2, (∀ W', (Instr.slice 22 (.slice A1 lb c1) (some (.int .i64 (s : Int))) (some (.int .i64 (j : Int))) none).run Tryd.prog W' = .ok (.slice A2 (j - s) (c1 - s)) W') ∧ Kd.F Kd.string W P A2 (j - s) ((b.take j).drop s) := by
  obtain ⟨i0, hi, hzz⟩ := Option.map_eq_some_iff.1 diff_infoS
  simp only [Prod.mk.injEq] at hzz
  have hb : b.length = lb := Kd.F_len h
  subst hb
  refine ⟨(if c1 = s then A1 else A1.map (·.add (s * 1))), fun W' => ?_, ?_⟩
  · have := cut_mid (P := Tryd.prog) 22 9 .i64 .i64 Tryd.underlying22 hi 1 hzz.2.1 A1 b.length c1 (s : Int) (j : Int) (Int.natCast_nonneg _) (by omega) (by omega) hc W'
    simpa using this
  · have h1 := Kd.F_take h hj
    have h2 := Kd.F_cut (m := s) (c := c1) h1 (by rw [List.length_take]; omega) (by rw [List.length_take]; omega)
    have hl : ((b.take j).drop s).length = j - s := by rw [List.length_drop, List.length_take]; omega
    rw [hl] at h2
    exact h2
theorem diff_fin {w W : World} {P : Nat → Prop} {A1 : Option Addr} {c1 lb go q : Nat} {o : Option Obj} {b : List ByteArray} {v x0 x1 x2 y0 : Value} {out : List S29} (h : DSt w P A1 c1 lb b go q o v out W) (h0 : W.heap[go]? = some (.cells #[v] 26 (0, 0))) (h1 : W.heap[go + 1]? = some (.cells #[x0, x1, x2] 29 (0, 0))) (h2 : W.heap[go + 2]? = some (.cells #[y0] 3 (0, 0))) (a b' c d : Value) :
    DSt w P A1 c1 lb b go q o v out ((((W.setCell ⟨go + 1, 0, none⟩ a).setCell ⟨go + 1, 1, none⟩ b').setCell ⟨go + 1, 2, none⟩ c).setCell ⟨go + 2, 0, none⟩ d) ∧
    ((((W.setCell ⟨go + 1, 0, none⟩ a).setCell ⟨go + 1, 1, none⟩ b').setCell ⟨go + 1, 2, none⟩ c).setCell ⟨go + 2, 0, none⟩ d).heap[go]? = some (.cells #[v] 26 (0, 0)) ∧
    ((((W.setCell ⟨go + 1, 0, none⟩ a).setCell ⟨go + 1, 1, none⟩ b').setCell ⟨go + 1, 2, none⟩ c).setCell ⟨go + 2, 0, none⟩ d).heap[go + 1]? = some (.cells #[a, b', c] 29 (0, 0)) ∧
    ((((W.setCell ⟨go + 1, 0, none⟩ a).setCell ⟨go + 1, 1, none⟩ b').setCell ⟨go + 1, 2, none⟩ c).setCell ⟨go + 2, 0, none⟩ d).heap[go + 2]? = some (.cells #[d] 3 (0, 0)) :=
  ⟨(((h.set (go + 1) (by omega) (by omega) 0 a).set (go + 1) (by omega) (by omega) 1 b').set (go + 1) (by omega) (by omega) 2 c).set (go + 2) (by omega) (by omega) 0 d,
    blk_far (blk_far (blk_far (blk_far h0 (by simp) _) (by simp) _) (by simp) _) (by simp) _,
    blk_far (blk_put (blk_put (blk_put h1 0 a rfl) 1 b' rfl) 2 c rfl) (by simp) _,
    blk_put (blk_far (blk_far (blk_far h2 (by simp) _) (by simp) _) (by simp) _) 0 d rfl⟩
theorem diff_grow {w W W' : World} {P : Nat → Prop} {A1 : Option Addr} {c1 lb go q : Nat} {o : Option Obj} {b : List ByteArray} {v v' : Value} {out out' : List S29} (h : DSt w P A1 c1 lb b go q o v out W) (hr : Kd.N k29 29 W' (go + 3) (fun k => P k ∨ (go + 3 ≤ k ∧ k ≠ q)) v' out') (hb : Below (go + 3) W W') (hg : W.grownBy W' v.ownBlock) : DSt w P A1 c1 lb b go q o v' out' W' :=
  ⟨h.gt, Nat.le_trans h.lt hb.size, h.pl, (hb.block _ (by have := h.gt; omega)).trans h.bx, hr, Nat.lt_of_lt_of_le h.ql hb.size, h.qn, fun z hz => (hg.block q h.ql (fun e => by rcases h.row.1 q e.symm with h1 | h1; (have := h.pl q h1; have := h.qn z hz; have := h.gt; omega); exact h1.2 rfl)).trans (h.pr z hz), Kd.F_step h.src (fun k hk _ => hb.block k (by have := h.pl k hk; have := h.gt; omega)), h.low.trans (hb.mono (by have := h.gt; omega))⟩
set_option maxHeartbeats 16000000 in
set_option maxRecDepth 100000 in
theorem diff_end (w W : World) (P : Nat → Prop) (A1 Ax : Option Addr) (c1 lb go q i j at_ seen nx cx gh gs : Nat) (o : Option Obj) (I J d : Int) (b : List ByteArray) (v : Value) (out : List S29) (hI : I = (i : Int)) (hJ : J = (j : Int)) (hgh : gh = go + 1) (hgs : gs = go + 2) (h : DSt w P A1 c1 lb b go q o v out W)
    (h0 : W.heap[go]? = some (.cells #[v] 26 (0, 0))) (h1 : W.heap[go + 1]? = some (.cells #[.int .i64 (at_ : Int), .int .i64 d, .slice Ax nx cx] 29 (0, 0))) (h2 : W.heap[go + 2]? = some (.cells #[.int .i64 (seen : Int)] 3 (0, 0)))
    (ha : at_ ≤ i) (hs : seen ≤ j) (hj : j ≤ lb) (hc : lb ≤ c1) (hi : i ≤ 1000) (hjl : j ≤ 1000) (ho : out.length ≤ 1000) :
    Calls Tryd.prog 16 #[.int .i64 I, .int .i64 J, .pointer (some ⟨gh, 0, none⟩), .pointer (some ⟨w.heap.size, 0, none⟩), .pointer (some ⟨gs, 0, none⟩), .pointer (some ⟨go, 0, none⟩)] W fun e W' => e = .returned (.tuple #[]) ∧ ∃ v' d' Ay ny cy, DSt w P A1 c1 lb b go q o v' (out ++ dfOne b at_ seen i j) W' ∧ W'.heap[go]? = some (.cells #[v'] 26 (0, 0)) ∧ W'.heap[go + 1]? = some (.cells #[.int .i64 ((i + 1 : Nat) : Int), .int .i64 d', .slice Ay ny cy] 29 (0, 0)) ∧ W'.heap[go + 2]? = some (.cells #[.int .i64 ((j + 1 : Nat) : Int)] 3 (0, 0)) := by
  subst hI
  subst hJ
  subst hgh
  subst hgs
  have huH := Tryd.underlying29
  obtain ⟨A2, hcut, hF2⟩ := diff_cut P A1 c1 lb seen j b W h.src hs hj hc
  have HD := Aside0.mk h
  have H0 := Aside0.mk h0
  have H1 := Aside0.mk h1
  have H2 := Aside0.mk h2
  have HX := Aside0.mk h.bx
  have HF2 := Aside0.mk hF2
  have HN1 := Aside0.mk (show w.heap.size ≠ go + 1 by have := h.gt; omega)
  have HLn := Aside0.mk (show ((b.take j).drop seen).length = j - seen from Kd.F_len hF2)
  have HO := Aside0.mk ho
  have e1 : IntKind.i64.wrap ((i : Int) - (at_ : Int)) = (i : Int) - (at_ : Int) := by rw [IntKind.wrap_i64]; omega
  have e2 : wrap64 ((i : Int) - (at_ : Int)) = (i : Int) - (at_ : Int) := by rw [← i64_w]; exact e1
  clear h h0 h1 h2 hF2 ho
  go_enter Tryd.func16, Tryd.ntmps16
  go_upto_region 0 with fail
  refine start_ (n := 12) (S := fun w' => w'.cell? ⟨go + 1, 0, none⟩ = some (.int .i64 (at_ : Int)) ∧ w'.cell? ⟨w.heap.size, 0, none⟩ = some (.slice A1 lb c1) ∧ w'.cell? ⟨go + 2, 0, none⟩ = some (.int .i64 (seen : Int))) (ds := [11]) #[false, false, false, false, false, false, false, false, false, false, false, false] (by kernel_rfl) rfl rfl ⟨(blk_cell (blk_drew H1.out) 0).trans rfl, (blk_cell (blk_drew HX.out) 0).trans rfl, (blk_cell (blk_drew H2.out) 0).trans rfl⟩ (fun hHeld => ?_)
  refine pure_ (i := 0) (N := some 8) (v := ?_) (a' := ?_) #[true, false, false, false, false, false, false, false, false, false, false, false] rfl rfl (by kernel_rfl) (fun _ _ _ h => h) (Or.inl ⟨by rfl, ?_⟩) ?_ ?_
  rotate_left
  · intro w'
    go_simp
    with_reducible rfl
  rotate_left
  · simp only [Act.put, List.setIfInBounds_toArray, List.set_cons_zero, List.set_cons_succ, i64_w, i32_w]
    rfl
  refine pure_ (i := 1) (N := some 9) (v := ?_) (a' := ?_) #[true, true, false, false, false, false, false, false, false, false, false, false] rfl rfl (by kernel_rfl) (fun _ _ _ h => h) (Or.inl ⟨by rfl, ?_⟩) ?_ ?_
  rotate_left
  · intro w'
    go_simp
    with_reducible rfl
  rotate_left
  · simp only [Act.put, List.setIfInBounds_toArray, List.set_cons_zero, List.set_cons_succ, i64_w, i32_w]
    rfl
  refine pure_ (i := 6) (N := some 14) (v := ?_) (a' := ?_) #[true, true, false, false, false, false, true, false, false, false, false, false] rfl rfl (by kernel_rfl) (fun _ _ _ h => h) (Or.inl ⟨by rfl, ?_⟩) ?_ ?_
  rotate_left
  · intro w'
    go_simp
    with_reducible rfl
  rotate_left
  · simp only [Act.put, List.setIfInBounds_toArray, List.set_cons_zero, List.set_cons_succ, i64_w, i32_w]
    rfl
  refine take_ (i := 2) (N := some 10) (v := ?_) (a' := ?_) #[true, true, true, false, false, false, true, false, false, false, false, false] rfl rfl (by kernel_rfl) (fun _ _ _ h => h) (Or.inl ⟨by rfl, ?_⟩) hHeld ?_ ?_
  rotate_left
  · rintro w' ⟨s0, s1, s2⟩
    go_simp
    with_reducible rfl
  rotate_left
  · simp only [Act.put, List.setIfInBounds_toArray, List.set_cons_zero, List.set_cons_succ, i64_w, i32_w]
    rfl
  refine pure_ (i := 3) (N := some 11) (v := ?_) (a' := ?_) #[true, true, true, true, false, false, true, false, false, false, false, false] rfl rfl (by kernel_rfl) (fun _ _ _ h => h) (Or.inl ⟨by rfl, ?_⟩) ?_ ?_
  rotate_left
  · intro w'
    go_simp
    with_reducible rfl
  rotate_left
  · simp only [Act.put, List.setIfInBounds_toArray, List.set_cons_zero, List.set_cons_succ, i64_w, i32_w]
    rfl
  refine pure_ (i := 8) (N := some 16) (v := ?_) (a' := ?_) #[true, true, true, true, false, false, true, false, true, false, false, false] rfl rfl (by kernel_rfl) (fun _ _ _ h => h) (Or.inl ⟨by rfl, ?_⟩) ?_ ?_
  rotate_left
  · intro w'
    go_simp
    with_reducible rfl
  rotate_left
  · simp only [Act.put, List.setIfInBounds_toArray, List.set_cons_zero, List.set_cons_succ, i64_w, i32_w]
    rfl
  refine take_ (i := 4) (N := some 12) (v := ?_) (a' := ?_) #[true, true, true, true, true, false, true, false, true, false, false, false] rfl rfl (by kernel_rfl) (fun _ _ _ h => h) (Or.inl ⟨by rfl, ?_⟩) hHeld ?_ ?_
  rotate_left
  · rintro w' ⟨s0, s1, s2⟩
    go_simp
    with_reducible rfl
  rotate_left
  · simp only [Act.put, List.setIfInBounds_toArray, List.set_cons_zero, List.set_cons_succ, i64_w, i32_w]
    rfl
  refine take_ (i := 5) (N := some 13) (v := ?_) (a' := ?_) #[true, true, true, true, true, true, true, false, true, false, false, false] rfl rfl (by kernel_rfl) (fun _ _ _ h => h) (Or.inl ⟨by rfl, ?_⟩) hHeld ?_ ?_
  rotate_left
  · rintro w' ⟨s0, s1, s2⟩
    go_simp
    with_reducible rfl
  rotate_left
  · simp only [Act.put, List.setIfInBounds_toArray, List.set_cons_zero, List.set_cons_succ, i64_w, i32_w]
    rfl
  refine pure_ (i := 7) (N := some 15) (v := ?_) (a' := ?_) #[true, true, true, true, true, true, true, true, true, false, false, false] rfl rfl (by kernel_rfl) (fun _ _ _ h => h) (Or.inl ⟨by rfl, ?_⟩) ?_ ?_
  rotate_left
  · intro w'
    go_simp
    with_reducible rfl
  rotate_left
  · simp only [Act.put, List.setIfInBounds_toArray, List.set_cons_zero, List.set_cons_succ, i64_w, i32_w]
    rfl
  refine one_ (i := 9) (N := none) #[true, true, true, true, true, true, true, true, true, true, false, false] rfl rfl (by kernel_rfl) (by decide) (fun K hK => ?_)
  have hs_ := (blk_cell (blk_drew H1.out) 1).trans rfl
  have hf_ := blk_frozen (blk_drew H1.out) 1
  refine skip_ (w1 := ?_) (by rfl) rfl ?_ ?_
  rotate_left
  · go_simp
    rfl
  clear hs_ hf_
  refine hK.out _ _ ⟨(blk_cell (blk_put (cs' := #[.int .i64 (at_ : Int), .int .i64 ((i : Int) - (at_ : Int)), .slice Ax nx cx]) (blk_drew H1.out) 1 (.int .i64 ((i : Int) - (at_ : Int))) rfl) 0).trans rfl, (blk_cell (blk_far (p := ⟨go + 1, 1, none⟩) (blk_drew HX.out) HN1.out _) 0).trans rfl, (blk_cell (blk_far (p := ⟨go + 1, 1, none⟩) (blk_drew H2.out) (by simp) _) 0).trans rfl⟩ (fun hHeld => ?_)
  clear hK K
  refine pure_ (i := 10) (N := some 17) (v := ?_) (a' := ?_) #[true, true, true, true, true, true, true, true, true, true, true, false] rfl rfl (by kernel_rfl) (fun _ _ _ h => h) (Or.inl ⟨by rfl, ?_⟩) ?_ ?_
  rotate_left
  · intro w'
    go_simp
    with_reducible rfl
  rotate_left
  · simp only [Act.put, List.setIfInBounds_toArray, List.set_cons_zero, List.set_cons_succ, i64_w, i32_w]
    rfl
  refine last_ (i := 11) (N := none) #[true, true, true, true, true, true, true, true, true, true, true, true] rfl rfl (by kernel_rfl) (by decide) (fun K hK => ?_)
  have hs_ := (blk_cell H1.out 2).trans rfl
  have hf_ := blk_frozen H1.out 2
  refine skip_ (w1 := ?_) (by rfl) rfl ?_ ?_
  rotate_left
  · go_simp
    rfl
  clear hs_ hf_
  refine hK.out _ _ ?_
  clear hK K
  refine done_ (by kernel_rfl) ?_

  have K1 := Aside0.mk (blk_drew (blk_put (cs' := #[.int .i64 (at_ : Int), .int .i64 ((i : Int) - (at_ : Int)), .slice A2 (j - seen) (c1 - seen)]) (blk_put (cs' := #[.int .i64 (at_ : Int), .int .i64 ((i : Int) - (at_ : Int)), .slice Ax nx cx]) H1.out 1 (.int .i64 ((i : Int) - (at_ : Int))) rfl) 2 (.slice A2 (j - seen) (c1 - seen)) rfl))
  have D1 := Aside0.mk ((HD.out.set (go + 1) (by omega) (by omega) 1 (.int .i64 ((i : Int) - (at_ : Int)))).set (go + 1) (by omega) (by omega) 2 (.slice A2 (j - seen) (c1 - seen))).drew
  have K0 := Aside0.mk (blk_drew (blk_far (p := ⟨go + 1, 2, none⟩) (blk_far (p := ⟨go + 1, 1, none⟩) H0.out (by simp) (.int .i64 ((i : Int) - (at_ : Int)))) (by simp) (.slice A2 (j - seen) (c1 - seen))))
  have K2 := Aside0.mk (blk_drew (blk_far (p := ⟨go + 1, 2, none⟩) (blk_far (p := ⟨go + 1, 1, none⟩) H2.out (by simp) (.int .i64 ((i : Int) - (at_ : Int)))) (by simp) (.slice A2 (j - seen) (c1 - seen))))
  have HF := Aside0.mk (Kd.F_drew (Kd.F_far (p := ⟨go + 1, 2, none⟩) (Kd.F_far (p := ⟨go + 1, 1, none⟩) HF2.out (fun k hk => by have := HD.out.pl k hk; have := HD.out.gt; simp; omega) (.int .i64 ((i : Int) - (at_ : Int)))) (fun k hk => by have := HD.out.pl k hk; have := HD.out.gt; simp; omega) (.slice A2 (j - seen) (c1 - seen))))
  obtain ⟨m, hm⟩ : ∃ m, j - seen = m := ⟨_, rfl⟩
  rw [hm] at K1 D1 K0 K2 HF HLn ⊢
  obtain ⟨W1, hW1⟩ : ∃ X : World, ((W.setCell ⟨go + 1, 1, none⟩ (.int .i64 ((i : Int) - (at_ : Int)))).setCell ⟨go + 1, 2, none⟩ (.slice A2 m (c1 - seen))).drew = X := ⟨_, rfl⟩
  rw [hW1] at K1 D1 K0 K2 HF ⊢
  obtain ⟨Av, cv, rfl⟩ := Kd.N_slice D1.out.row
  have HFK : Aside0 (Kd.FK k29 W1 P ⟨(at_ : Int), (i : Int) - (at_ : Int), (b.take j).drop seen⟩ [.int .i64 (at_ : Int), .int .i64 ((i : Int) - (at_ : Int)), .slice A2 m (c1 - seen)]) := ⟨by
    have hl := HLn.out
    have hF := HF.out
    rw [← hl] at hF ⊢
    exact Foot.imp hF (fun W' hC => k29_mk W' ⟨(at_ : Int), (i : Int) - (at_ : Int), (b.take j).drop seen⟩ (by show ((b.take j).drop seen).length ≤ c1 - seen; omega) hC)⟩
  have HM := Aside0.mk hm
  clear hW1 hm HD H0 H1 H2 HX HF2 HF hcut
  have x0 := (blk_cell K0.out 0).trans rfl
  have w0 := (blk_cell K1.out 0).trans rfl
  have w1 := (blk_cell K1.out 1).trans rfl
  have w2 := (blk_cell K1.out 2).trans rfl
  by_cases ca : at_ < i
  · have d1 : decide ((0 : Int) < (i : Int) - (at_ : Int)) = true := decide_eq_true (by omega)
    have d2 : decide ((at_ : Int) < (i : Int)) = true := decide_eq_true (by omega)
    have d3 : decide (at_ < i) = true := decide_eq_true ca
    have HOne : Aside0 (dfOne b at_ seen i j = [⟨(at_ : Int), (i : Int) - (at_ : Int), (b.take j).drop seen⟩]) := ⟨if_pos (.inl ca)⟩
    clear ca
    go_wp2_with ((with_reducible refine gate_builtin (b := .append) (xs := #[.tmp 27, .tmp 29]) rfl ?_); (try (refine gate_guard (by rfl) ?_; dsimp only)); at_builtin; refine Kd.N_append k29 (w0 := W1) (go + 3) rfl (.tmp 27) (.tmp 29) 26 29 (.agg #[.int .i64 0, .int .i64 0, .slice none 0 0]) 40 rfl Tryd.underlying26 diff_info rfl (by decide) (by decide) (.slice Av out.length cv) out ⟨(at_ : Int), (i : Int) - (at_ : Int), (b.take j).drop seen⟩ [.int .i64 (at_ : Int), .int .i64 ((i : Int) - (at_ : Int)), .slice A2 m (c1 - seen)] (fun k => P k ∨ (go + 3 ≤ k ∧ k ≠ q)) P rfl rfl HFK.out (fun k hk => ⟨.inl hk, fun e => by have h1 := Kd.N_base D1.out.row k e.symm; have h2 := D1.out.pl k hk; have h3 := D1.out.gt; omega⟩) (fun k hk => .inr ⟨Nat.le_trans D1.out.lt hk, by have := D1.out.ql; omega⟩) D1.out.row (Below.refl _ _) D1.out.lt (by have := HO.out; omega) ?_; intro v30 w3 hN hb3 hg3 hat3; obtain ⟨A30, c30, rfl⟩ := Kd.N_slice hN; have D3 := Aside0.mk (diff_grow D1.out hN hb3 hg3); have KK0 := Aside0.mk ((hb3.block go (by omega)).trans K0.out); have KK1 := Aside0.mk ((hb3.block (go + 1) (by omega)).trans K1.out); have KK2 := Aside0.mk ((hb3.block (go + 2) (by omega)).trans K2.out); have x0 := (blk_cell KK0.out 0).trans rfl; have g0 := blk_frozen KK0.out 0; have z0 := (blk_cell KK1.out 0).trans rfl; have z1 := (blk_cell KK1.out 1).trans rfl; have z2 := (blk_cell KK1.out 2).trans rfl; have y0 := (blk_cell KK2.out 0).trans rfl; have f0 := blk_frozen KK1.out 0; have f1 := blk_frozen KK1.out 1; have f2 := blk_frozen KK1.out 2; have f3 := blk_frozen KK2.out 0; clear hN hb3 hg3 hat3)
    go_end0
    obtain ⟨r1, r2, r3, r4⟩ := diff_fin (D3.out.set go (Nat.le_refl _) (by omega) 0 (.slice A30 (out ++ [(⟨(at_ : Int), (i : Int) - (at_ : Int), (b.take j).drop seen⟩ : S29)]).length c30)) (blk_put KK0.out 0 _ rfl) (blk_far KK1.out (by simp) _) (blk_far KK2.out (by simp) _) (.int .i64 ((i : Int) + 1)) (.int .i64 0) (.slice none 0 0) (.int .i64 ((j : Int) + 1))
    rw [List.length_append] at r1 r2 r3 r4
    exact ⟨rfl, _, 0, none, 0, 0, by rw [HOne.out]; exact r1, r2, r3, r4⟩
  · have d1 : decide ((0 : Int) < (i : Int) - (at_ : Int)) = false := decide_eq_false (by omega)
    have d2 : decide ((at_ : Int) < (i : Int)) = false := decide_eq_false (by omega)
    have d3 : decide (at_ < i) = false := decide_eq_false ca
    by_cases cs : seen < j
    · have e1 : decide ((0 : Int) < (m : Int)) = true := decide_eq_true (by have := HM.out; omega)
      have e2 : decide (0 < m) = true := decide_eq_true (by have := HM.out; omega)
      have HOne : Aside0 (dfOne b at_ seen i j = [⟨(at_ : Int), (i : Int) - (at_ : Int), (b.take j).drop seen⟩]) := ⟨if_pos (.inr cs)⟩
      clear ca cs
      go_wp2_with ((with_reducible refine gate_builtin (b := .append) (xs := #[.tmp 27, .tmp 29]) rfl ?_); (try (refine gate_guard (by rfl) ?_; dsimp only)); at_builtin; refine Kd.N_append k29 (w0 := W1) (go + 3) rfl (.tmp 27) (.tmp 29) 26 29 (.agg #[.int .i64 0, .int .i64 0, .slice none 0 0]) 40 rfl Tryd.underlying26 diff_info rfl (by decide) (by decide) (.slice Av out.length cv) out ⟨(at_ : Int), (i : Int) - (at_ : Int), (b.take j).drop seen⟩ [.int .i64 (at_ : Int), .int .i64 ((i : Int) - (at_ : Int)), .slice A2 m (c1 - seen)] (fun k => P k ∨ (go + 3 ≤ k ∧ k ≠ q)) P rfl rfl HFK.out (fun k hk => ⟨.inl hk, fun e => by have h1 := Kd.N_base D1.out.row k e.symm; have h2 := D1.out.pl k hk; have h3 := D1.out.gt; omega⟩) (fun k hk => .inr ⟨Nat.le_trans D1.out.lt hk, by have := D1.out.ql; omega⟩) D1.out.row (Below.refl _ _) D1.out.lt (by have := HO.out; omega) ?_; intro v30 w3 hN hb3 hg3 hat3; obtain ⟨A30, c30, rfl⟩ := Kd.N_slice hN; have D3 := Aside0.mk (diff_grow D1.out hN hb3 hg3); have KK0 := Aside0.mk ((hb3.block go (by omega)).trans K0.out); have KK1 := Aside0.mk ((hb3.block (go + 1) (by omega)).trans K1.out); have KK2 := Aside0.mk ((hb3.block (go + 2) (by omega)).trans K2.out); have x0 := (blk_cell KK0.out 0).trans rfl; have g0 := blk_frozen KK0.out 0; have z0 := (blk_cell KK1.out 0).trans rfl; have z1 := (blk_cell KK1.out 1).trans rfl; have z2 := (blk_cell KK1.out 2).trans rfl; have y0 := (blk_cell KK2.out 0).trans rfl; have f0 := blk_frozen KK1.out 0; have f1 := blk_frozen KK1.out 1; have f2 := blk_frozen KK1.out 2; have f3 := blk_frozen KK2.out 0; clear hN hb3 hg3 hat3)
      go_end0
      obtain ⟨r1, r2, r3, r4⟩ := diff_fin (D3.out.set go (Nat.le_refl _) (by omega) 0 (.slice A30 (out ++ [(⟨(at_ : Int), (i : Int) - (at_ : Int), (b.take j).drop seen⟩ : S29)]).length c30)) (blk_put KK0.out 0 _ rfl) (blk_far KK1.out (by simp) _) (blk_far KK2.out (by simp) _) (.int .i64 ((i : Int) + 1)) (.int .i64 0) (.slice none 0 0) (.int .i64 ((j : Int) + 1))
      rw [List.length_append] at r1 r2 r3 r4
      exact ⟨rfl, _, 0, none, 0, 0, by rw [HOne.out]; exact r1, r2, r3, r4⟩
    · have e1 : decide ((0 : Int) < (m : Int)) = false := decide_eq_false (by have := HM.out; omega)
      have e2 : decide (0 < m) = false := decide_eq_false (by have := HM.out; omega)
      have HOne : Aside0 (dfOne b at_ seen i j = []) := ⟨if_neg (by omega)⟩
      clear ca cs
      have g0 := blk_frozen K0.out 0
      have f0 := blk_frozen K1.out 0
      have f1 := blk_frozen K1.out 1
      have f2 := blk_frozen K1.out 2
      have y0 := (blk_cell K2.out 0).trans rfl
      have f3 := blk_frozen K2.out 0
      go_wp2_with fail
      go_end0
      obtain ⟨r1, r2, r3, r4⟩ := diff_fin D1.out K0.out K1.out K2.out (.int .i64 ((i : Int) + 1)) (.int .i64 0) (.slice none 0 0) (.int .i64 ((j : Int) + 1))
      exact ⟨rfl, _, 0, none, 0, 0, by rw [HOne.out, List.append_nil]; exact r1, r2, r3, r4⟩
set_option maxHeartbeats 16000000 in
set_option maxRecDepth 100000 in
theorem hunks_Diff.own (A0 : Option Addr) (c0 la : Nat) (a : List ByteArray) (P : Nat → Prop) (A1 : Option Addr) (c1 lb : Nat) (b : List ByteArray) (w : World) (h0 : Kd.C Kd.string w A0 la a) (h1 : Kd.F Kd.string w P A1 lb b) (hP : ∀ k, P k → k < w.heap.size) (hc : lb ≤ c1) (ha : la ≤ 200) (hb : lb ≤ 200) :
    Calls Tryd.prog 13 #[.slice A0 la c0, .slice A1 lb c1] w fun e w' => ∃ v0_ : Value, e = .returned v0_ ∧ Kd.N k29 29 w' w.heap.size (fun k => P k ∨ w.heap.size ≤ k) v0_ (diffL a b) ∧ Below w.heap.size w w' := by
  have huH := Tryd.underlying29
  have hmf : ∀ (fn : Fn) (first cap : Array Value) (w : World), (Instr.makeFunc fn first cap).run Tryd.prog w = .ok (.func fn first cap) w := fun _ _ _ _ => rfl
  have HA := Aside0.mk (show a.length = la from h0.1)
  have HB := Aside0.mk (show b.length = lb from Kd.F_len h1)
  have HC0 := Aside0.mk h0
  have HF1 := Aside0.mk h1
  have HP := Aside0.mk hP
  have Hc := Aside0.mk hc
  have HLa := Aside0.mk ha
  have HLb := Aside0.mk hb
  clear h0 h1 hP hc
  go_enter Tryd.func13, Tryd.ntmps13
  go_upto_region 3 with (go_at_call 15; (with_reducible refine (hunks_many.two (w.heap.size + 1) A0 A1 la lb c0 c1 _ ?side1 ?side2 HLa.out HLb.out).mono ?_); (case side1 => exact (blk_cell (show (((w.alloc (.cells #[.slice A1 lb c1] 22)).alloc (.cells #[.slice A0 la c0, .slice A1 lb c1] 22)).heap[w.heap.size + 1]? = some (.cells #[.slice A0 la c0, .slice A1 lb c1] 22 (0, 0))) by simpa using heap_alloc_new (w.alloc (.cells #[.slice A1 lb c1] 22)) (.cells #[.slice A0 la c0, .slice A1 lb c1] 22)) 0).trans rfl); (case side2 => exact (blk_cell (show (((w.alloc (.cells #[.slice A1 lb c1] 22)).alloc (.cells #[.slice A0 la c0, .slice A1 lb c1] 22)).heap[w.heap.size + 1]? = some (.cells #[.slice A0 la c0, .slice A1 lb c1] 22 (0, 0))) by simpa using heap_alloc_new (w.alloc (.cells #[.slice A1 lb c1] 22)) (.cells #[.slice A0 la c0, .slice A1 lb c1] 22)) 1).trans rfl); rintro e w2 ⟨rfl, rfl⟩)
  have KX := Aside0.mk (blk_alloc (heap_alloc_new w (.cells #[.slice A1 lb c1] 22)) (.cells #[.slice A0 la c0, .slice A1 lb c1] 22))
  have KB := Aside0.mk (below_alloc (below_alloc (Below.refl w.heap.size w) (.cells #[.slice A1 lb c1] 22)) (.cells #[.slice A0 la c0, .slice A1 lb c1] 22))
  obtain ⟨Wa, hW⟩ : ∃ W : World, (w.alloc (.cells #[.slice A1 lb c1] 22)).alloc (.cells #[.slice A0 la c0, .slice A1 lb c1] 22) = W := ⟨_, rfl⟩
  rw [hW] at KX KB ⊢
  clear hW
  go_upto_region 6 with fail
  obtain ⟨go, hgo⟩ : ∃ g, Wa.heap.size = g := ⟨_, rfl⟩
  have K0 : Aside0 ((((Wa.alloc (.cells #[.slice none 0 0] 26)).alloc (.cells #[.int .i64 0, .int .i64 0, .slice none 0 0] 29)).alloc (.cells #[.int .i64 0] 3)).heap[go]? = some (.cells #[.slice none 0 0] 26 (0, 0))) := ⟨by rw [← hgo]; exact blk_alloc (blk_alloc (heap_alloc_new Wa _) _) _⟩
  have K1 : Aside0 ((((Wa.alloc (.cells #[.slice none 0 0] 26)).alloc (.cells #[.int .i64 0, .int .i64 0, .slice none 0 0] 29)).alloc (.cells #[.int .i64 0] 3)).heap[go + 1]? = some (.cells #[.int .i64 0, .int .i64 0, .slice none 0 0] 29 (0, 0))) := ⟨by rw [← hgo]; exact blk_alloc (by simpa using heap_alloc_new (Wa.alloc (.cells #[.slice none 0 0] 26)) (.cells #[.int .i64 0, .int .i64 0, .slice none 0 0] 29)) _⟩
  have K2 : Aside0 ((((Wa.alloc (.cells #[.slice none 0 0] 26)).alloc (.cells #[.int .i64 0, .int .i64 0, .slice none 0 0] 29)).alloc (.cells #[.int .i64 0] 3)).heap[go + 2]? = some (.cells #[.int .i64 0] 3 (0, 0))) := ⟨by rw [← hgo]; simpa using heap_alloc_new ((Wa.alloc (.cells #[.slice none 0 0] 26)).alloc (.cells #[.int .i64 0, .int .i64 0, .slice none 0 0] 29)) (.cells #[.int .i64 0] 3)⟩
  have KX4 := Aside0.mk (blk_alloc (blk_alloc (blk_alloc KX.out (.cells #[.slice none 0 0] 26)) (.cells #[.int .i64 0, .int .i64 0, .slice none 0 0] 29)) (.cells #[.int .i64 0] 3))
  have KB4 := Aside0.mk (below_alloc (below_alloc (below_alloc KB.out (.cells #[.slice none 0 0] 26)) (.cells #[.int .i64 0, .int .i64 0, .slice none 0 0] 29)) (.cells #[.int .i64 0] 3))
  have Hgo := Aside0.mk (show w.heap.size < go by rw [← hgo]; exact blk_lt KX.out)
  obtain ⟨W4, hW⟩ : ∃ W : World, ((Wa.alloc (.cells #[.slice none 0 0] 26)).alloc (.cells #[.int .i64 0, .int .i64 0, .slice none 0 0] 29)).alloc (.cells #[.int .i64 0] 3) = W := ⟨_, rfl⟩
  have Hsz := Aside0.mk (show go + 3 ≤ W4.heap.size by rw [← hW, ← hgo]; simp)
  rw [hW] at K0 K1 K2 KX4 KB4 ⊢
  rw [hgo]
  clear hW hgo KX KB
  have hz0 := (blk_cell KX4.out 0).trans rfl
  go_wp2_with (go_at_call 17; (with_reducible refine (hunks_Match.own A0 c0 la a A1 c1 lb b _ (Kd.C_below HC0.out KB4.out) (Kd.C_below (Kd.F_now HF1.out) KB4.out) HLa.out HLb.out).mono ?_); rintro e W5 ⟨v19, rfl, hR, hb_⟩; obtain ⟨Am, cm, rfl⟩ := Kd.R_slice hR; have HR := Aside0.mk hR; have HB5 := Aside0.mk hb_; clear hR hb_)
  have HQ : Aside0 (∃ q o, DSt w P A1 c1 lb b go q o (.slice none 0 0) [] W5 ∧ ∀ i (hi : i < (mt a b 0).length), ∃ cur, o = some (.cells cur 3 (0, 0)) ∧ Am = some ⟨q, 0, none⟩ ∧ cur[i]? = some (.int .i64 ((mt a b 0)[i]))) := ⟨by
    have base : ∀ q o, q < W5.heap.size → (∀ x, o = some x → go + 3 ≤ q) → (∀ x, o = some x → W5.heap[q]? = some x) → DSt w P A1 c1 lb b go q o (.slice none 0 0) [] W5 := fun q o h1 h2 h3 =>
      ⟨Hgo.out, Nat.le_trans Hsz.out HB5.out.size, HP.out, blk_below KX4.out HB5.out, Kd.N_nil _ _ _ _ _, h1, h2, h3, Kd.F_below HF1.out (below_step KB4.out HB5.out), below_step KB4.out HB5.out⟩
    rcases Nat.eq_zero_or_pos (mt a b 0).length with hz | hz
    · exact ⟨w.heap.size, none, base _ _ (blk_lt (blk_below KX4.out HB5.out)) (fun x hx => by cases hx) (fun x hx => by cases hx), fun i hi => by omega⟩
    · have ho := Kd.own_of_R HR.out
      rcases ho.2 with ⟨_, h1⟩ | ⟨g, cap, cur, he, hg, hh, h1, h2, h3, h4⟩
      · omega
      · injection he with he1 he2 he3
        refine ⟨g, some (.cells cur 3 (0, 0)), base _ _ (blk_lt hh) (fun x hx => Nat.le_trans Hsz.out hg) (fun x hx => by injection hx with hx; rw [← hx]; exact hh), fun i hi => ⟨cur, rfl, he1, ?_⟩⟩
        have h5 : (cur.toList.take ((mt a b 0).length * 1))[i]? = some (.int .i64 ((mt a b 0)[i])) := by rw [h4]; simp [encs, List.getElem?_eq_getElem hi]
        rw [List.getElem?_take, if_pos (by omega), Array.getElem?_toList] at h5
        exact h5⟩
  obtain ⟨q, o, hD5, hM5⟩ := HQ.out
  have HM := Aside0.mk hM5
  have HML := Aside0.mk (show (mt a b 0).length = la by rw [mt_length, HA.out])
  have H0 := Aside0.mk (blk_below K0.out HB5.out)
  have H1 := Aside0.mk (blk_below K1.out HB5.out)
  have H2 := Aside0.mk (blk_below K2.out HB5.out)
  have HD := Aside0.mk hD5
  rw [HML.out]
  clear hD5 hM5 HQ hz0 K0 K1 K2 KX4 HR
  go_loopw [21] (fun v W => ∃ (i at_ seen : Nat) (d : Int) (Ax : Option Addr) (nx cx : Nat) (vo : Value) (out : List S29), v = .int .i64 i ∧ i ≤ la ∧ Aside0 (DSt w P A1 c1 lb b go q o vo out W ∧ W.heap[go]? = some (.cells #[vo] 26 (0, 0)) ∧ W.heap[go + 1]? = some (.cells #[.int .i64 (at_ : Int), .int .i64 d, .slice Ax nx cx] 29 (0, 0)) ∧ W.heap[go + 2]? = some (.cells #[.int .i64 (seen : Int)] 3 (0, 0)) ∧ at_ ≤ i ∧ Rise lb ((mt a b 0).drop i) seen ∧ out.length ≤ i ∧ out ++ dfL b ((mt a b 0).drop i) i at_ seen = diffL a b)) (fun v _ => la - (intOf v).toNat)
  case atStart => exact ⟨0, 0, 0, 0, none, 0, 0, _, [], rfl, Nat.zero_le _, ⟨HD.out, H0.out, H1.out, H2.out, Nat.le_refl _, by have h_ := mt_rise a b 0 lb (by rw [HB.out]; omega); simpa using h_, Nat.le_refl _, rfl⟩⟩
  case round =>
    clear HD H0 H1 H2
    obtain ⟨i, at_, seen, d, Ax, nx, cx, vo, out, rfl, hi, HJ⟩ := hrel
    have HD := Aside0.mk HJ.out.1
    have H0 := Aside0.mk HJ.out.2.1
    have H1 := Aside0.mk HJ.out.2.2.1
    have H2 := Aside0.mk HJ.out.2.2.2.1
    have HAt := Aside0.mk HJ.out.2.2.2.2.1
    have HRi := Aside0.mk HJ.out.2.2.2.2.2.1
    have HOl := Aside0.mk HJ.out.2.2.2.2.2.2.1
    have HE := Aside0.mk HJ.out.2.2.2.2.2.2.2
    clear HJ
    have hz0 := (blk_cell HD.out.bx 0).trans rfl
    by_cases qi : i < la
    · have p0 : (0 : Int) ≤ (i : Int) := Int.natCast_nonneg _
      have p1 : (i : Int) < (la : Int) := by omega
      have hil : i < (mt a b 0).length := by rw [HML.out]; exact qi
      obtain ⟨cur, ho, hAm, hcur⟩ := HM.out i hil
      subst hAm
      have hx := (blk_cell (HD.out.pr _ ho) i).trans hcur
      have hrise := HRi.out
      have heq := HE.out
      rw [List.drop_eq_getElem_cons hil] at hrise heq
      rw [Rise] at hrise
      rw [dfL] at heq
      obtain ⟨jv, hjv⟩ : ∃ jv, (mt a b 0)[i] = jv := ⟨_, rfl⟩
      rw [hjv] at hx hrise heq
      clear hcur hjv ho
      by_cases qj : 0 ≤ jv
      · rw [if_pos qj] at hrise heq
        obtain ⟨j, rfl⟩ : ∃ j : Nat, jv = (j : Int) := ⟨jv.toNat, by omega⟩
        simp only [Int.toNat_natCast] at hrise heq
        have Hs := Aside0.mk hrise.1
        have hjl : j < lb := hrise.2.1
        have HRi2 := Aside0.mk hrise.2.2
        have HE2 := Aside0.mk heq
        have HI := Aside0.mk hi
        clear hrise heq qj hil
        go_wp2_with (go_at_call 16; (with_reducible refine (diff_end w _ P A1 Ax c1 lb go q i j at_ seen nx cx _ _ o _ _ d b vo out rfl rfl (by omega) (by omega) HD.out H0.out H1.out H2.out (by have := HAt.out; omega) Hs.out (by omega) Hc.out (by have := HLa.out; omega) (by have := HLb.out; omega) (by have := HOl.out; have := HLa.out; omega)).mono ?_); rintro e W2 ⟨rfl, v2, d2, Ay, ny, cy, hD, h0, h1, h2⟩; have HD2 := Aside0.mk hD; have H02 := Aside0.mk h0; have H12 := Aside0.mk h1; have H22 := Aside0.mk h2; clear hD h0 h1 h2)
        go_roundw
        case rel => exact ⟨i + 1, i + 1, j + 1, d2, Ay, ny, cy, v2, _, by go_num, by omega, ⟨HD2.out, H02.out, H12.out, H22.out, Nat.le_refl _, HRi2.out, by rw [List.length_append]; have h1 := HOl.out; have h2 := dfOne_len b at_ seen i j; omega, by rw [List.append_assoc]; exact HE2.out⟩⟩
        case measure => simp [intOf]; omega
      · rw [if_neg qj] at hrise heq
        have HRi2 := Aside0.mk hrise
        have HE2 := Aside0.mk heq
        have qb : decide (0 ≤ jv) = false := decide_eq_false qj
        clear hrise heq qj hil
        go_wp2_with fail
        go_roundw
        case rel => exact ⟨i + 1, at_, seen, d, Ax, nx, cx, vo, out, by go_num, by omega, ⟨HD.out, H0.out, H1.out, H2.out, by have := HAt.out; omega, HRi2.out, by have := HOl.out; omega, HE2.out⟩⟩
        case measure => simp [intOf]; omega
    · obtain rfl : i = la := by omega
      have hrise := HRi.out
      have heq := HE.out
      rw [List.drop_eq_nil_of_le (by rw [HML.out]; exact Nat.le_refl _)] at hrise heq
      have Hs := Aside0.mk (show seen ≤ lb from hrise)
      have HE2 := Aside0.mk heq
      have HI := Aside0.mk hi
      clear hrise heq qi hi
      go_upto_region 13 with (go_at_call 16; (with_reducible refine (diff_end w _ P A1 Ax c1 lb go q i lb at_ seen nx cx _ _ o _ _ d b vo out rfl rfl (by omega) (by omega) HD.out H0.out H1.out H2.out (by have := HAt.out; omega) Hs.out (by omega) Hc.out (by have := HLa.out; omega) (by have := HLb.out; omega) (by have := HOl.out; have := HLa.out; omega)).mono ?_); rintro e W2 ⟨rfl, v2, d2, Ay, ny, cy, hD, h0, h1, h2⟩; have HD2 := Aside0.mk hD; have H02 := Aside0.mk h0; have H12 := Aside0.mk h1; have H22 := Aside0.mk h2; clear hD h0 h1 h2)
      obtain ⟨Av, cv, rfl⟩ := Kd.N_slice HD2.out.row
      have hz1 := (blk_cell H02.out 0).trans rfl
      go_wp2_with fail
      go_ret
      refine ⟨_, rfl, ?_, HD2.out.low⟩
      have h1 := Kd.N_lower (base' := w.heap.size) HD2.out.row (by have := HD2.out.gt; omega)
      rw [List.length_append] at h1
      have h2 := HE2.out
      rw [dfL, HB.out] at h2
      rw [← h2]
      refine Kd.N_mono h1 (fun k hk => ?_)
      rcases hk with hk | hk
      · exact .inl hk
      · exact .inr (by have := HD2.out.gt; omega)
def hunks_Diff.f (a b : List ByteArray) : Option (List S29) := if a.length ≤ 200 ∧ b.length ≤ 200 then some (diffL a b) else none
theorem hunks_Diff.calls (A0 : Option Addr) (c0 : Nat) (l0 : List ByteArray) (P1_ : Nat → Prop) (A1 : Option Addr) (c1 : Nat) (l1 : List ByteArray) (r : List S29) (w : World) (hr0 : Kd.C Kd.string w A0 l0.length l0) (hc0 : l0.length ≤ c0) (hs1 : Kd.V Kd.string 9 w w.heap.size (fun k_ => P1_ k_) (.slice A1 l1.length c1) l1) (h : hunks_Diff.f l0 l1 = some r) :
    Calls Tryd.prog 13 #[.slice A0 l0.length c0, .slice A1 l1.length c1] w fun e w' => ∃ v0_ : Value, e = .returned v0_ ∧ Kd.N k29 29 w' w.heap.size (fun k_ => (P1_ k_ ∨ w.heap.size ≤ k_)) v0_ r ∧ Below w.heap.size w w' := by
  unfold hunks_Diff.f at h
  by_cases hm : l0.length ≤ 200 ∧ l1.length ≤ 200
  · rw [if_pos hm] at h
    obtain rfl := Option.some.inj h
    obtain ⟨_, hc1, hF⟩ := Kd.V_at hs1
    refine (hunks_Diff.own A0 c0 _ l0 (fun k => P1_ k ∧ k < w.heap.size) A1 c1 _ l1 w hr0 (Kd.F_bound hF) (fun k hk => hk.2) hc1 hm.1 hm.2).mono ?_
    rintro e w' ⟨v, rfl, h1, h2⟩
    exact ⟨v, rfl, Kd.N_mono h1 (fun k hk => hk.elim (fun h => .inl h.1) .inr), h2⟩
  · rw [if_neg hm] at h
    cases h

/-! ### styluslaw51_lives: function 5 -/
-- NEEDS stylus/hunks.Diff
def lives51_a : List ByteArray := [⟨#[97]⟩, ⟨#[98]⟩]
def lives51_b : List ByteArray := [⟨#[97]⟩, ⟨#[99]⟩]
def styluslaw51_lives.f : Option Bool := some true
theorem lives51_diff : diffL lives51_a lives51_b = [⟨1, 1, [⟨#[99]⟩]⟩] := by kernel_rfl
theorem lives51_C {W : World} {g : Nat} {x y : ByteArray} (h : W.heap[g]? = some (.cells #[.string x, .string y] 9 (0, 0))) : Kd.C Kd.string W (some ⟨g, 0, none⟩) 2 [x, y] := by
  refine ⟨rfl, by decide, fun _ => ⟨_, rfl, fun j p hj => ?_⟩⟩
  match j with
  | 0 =>
    simp only [List.getElem?_cons_zero, Option.some.injEq] at hj
    subst hj
    refine ⟨[.string x], rfl, rfl, fun i u hi => ?_⟩
    rw [add_plain]
    cases i with
    | succ i => simp at hi
    | zero =>
      rw [show 0 * Kd.string.sz + 0 = 0 from rfl, blk_cell h 0]
      simpa using hi
  | 1 =>
    simp only [List.getElem?_cons_succ, List.getElem?_cons_zero, Option.some.injEq] at hj
    subst hj
    refine ⟨[.string y], rfl, rfl, fun i u hi => ?_⟩
    rw [add_plain]
    cases i with
    | succ i => simp at hi
    | zero =>
      rw [show 1 * Kd.string.sz + 0 = 1 from rfl, blk_cell h 1]
      simpa using hi
  | j + 2 => simp at hj
theorem lives51_F {W : World} {g : Nat} {x y : ByteArray} (h : W.heap[g]? = some (.cells #[.string x, .string y] 9 (0, 0))) : Kd.F Kd.string W (fun k => k = g) (some ⟨g, 0, none⟩) 2 [x, y] :=
  fun W' hW => lives51_C ((hW g rfl (blk_lt h)).trans h)
theorem lives51_call (w : World) : Calls Tryd.prog 13 #[.slice (some ⟨w.heap.size, 0, none⟩) 2 2, .slice (some ⟨w.heap.size + 1, 0, none⟩) 2 2] ((w.alloc (.cells #[.string ⟨#[97]⟩, .string ⟨#[98]⟩] 9)).alloc (.cells #[.string ⟨#[97]⟩, .string ⟨#[99]⟩] 9)) fun e w' => ∃ A c ad A2 c2, e = .returned (.slice A 1 c) ∧ A = some ad ∧ w'.cell? ad = some (.int .i64 1) ∧ w'.cell? ⟨ad.block, ad.off + 1, none⟩ = some (.int .i64 1) ∧ w'.cell? ⟨ad.block, ad.off + 2, none⟩ = some (.slice (some A2) 1 c2) ∧ w'.cell? A2 = some (.string ⟨#[99]⟩) ∧ Below w.heap.size w w' := by
  have h0 : ((w.alloc (.cells #[.string ⟨#[97]⟩, .string ⟨#[98]⟩] 9)).alloc (.cells #[.string ⟨#[97]⟩, .string ⟨#[99]⟩] 9)).heap[w.heap.size]? = some (.cells #[.string ⟨#[97]⟩, .string ⟨#[98]⟩] 9 (0, 0)) := blk_alloc (heap_alloc_new w _) _
  have h1 : ((w.alloc (.cells #[.string ⟨#[97]⟩, .string ⟨#[98]⟩] 9)).alloc (.cells #[.string ⟨#[97]⟩, .string ⟨#[99]⟩] 9)).heap[w.heap.size + 1]? = some (.cells #[.string ⟨#[97]⟩, .string ⟨#[99]⟩] 9 (0, 0)) := by simpa using heap_alloc_new (w.alloc (.cells #[.string ⟨#[97]⟩, .string ⟨#[98]⟩] 9)) (.cells #[.string ⟨#[97]⟩, .string ⟨#[99]⟩] 9)
  refine (hunks_Diff.own (some ⟨w.heap.size, 0, none⟩) 2 2 lives51_a (fun k => k = w.heap.size + 1) (some ⟨w.heap.size + 1, 0, none⟩) 2 2 lives51_b _ (lives51_C h0) (lives51_F h1) (fun k hk => by subst hk; exact blk_lt h1) (Nat.le_refl _) (by decide) (by decide)).mono ?_
  rintro e w' ⟨v, rfl, hN, hb⟩
  rw [lives51_diff] at hN
  obtain ⟨A, c, rfl⟩ := Kd.N_slice hN
  obtain ⟨_, _, hC⟩ := Kd.N_reads' hN
  obtain ⟨ad, A2, c2, e1, x0, x1, x2, _, hC2⟩ := at_T29 hC 0 (Int.le_refl _) (by decide)
  obtain ⟨ad2, e2, y0⟩ := Kd.at_string hC2 0 (Int.le_refl _) (by decide)
  subst e1
  subst e2
  exact ⟨_, c, ad, ad2, c2, rfl, rfl, x0, x1, x2, y0, below_step (below_alloc (below_alloc (Below.refl _ _) _) _) hb⟩
set_option maxHeartbeats 8000000 in
set_option maxRecDepth 100000 in
theorem styluslaw51_lives.calls (r : Bool) (w : World) (h : styluslaw51_lives.f = some r) :
    Calls Tryd.prog 5 #[] w fun e w' => e = .returned (.bool r) ∧ Below w.heap.size w w' := by
  obtain rfl := Option.some.inj h
  have huH := Tryd.underlying29
  clear h
  go_enter Tryd.func5, Tryd.ntmps5
  go_upto_region 2 with (go_at_call 13; (with_reducible refine (lives51_call _).mono ?_); rintro e w2 ⟨A, c, ad, A2, c2, rfl, rfl, x0, x1, x2, y0, hb⟩; have KB := Aside0.mk hb; clear hb)
  go_wp2_with fail
  go_ret
  exact ⟨rfl, KB.out⟩

/-! ### hunks_Apply: function 6 -/
def hunks_Apply.l0 : Nat → List ByteArray → List ByteArray → Int → List (S29) → Int → Int → Option (List ByteArray × Int)
  | 0, _, _, _, _, _, _ => none
  | k + 1, x0, x6, x7, x10, x11, x12 => if x12 < x11 then (if 0 ≤ x12 then (if x12 < (x10.length : Int) then (if ((rd_T29 x10 x12).f0) < x7 then (some (([] : List ByteArray), 3)) else (if ((rd_T29 x10 x12).f0) > (x0.length : Int) then (some (([] : List ByteArray), 3)) else (if ((rd_T29 x10 x12).f1) < 0 then (some (([] : List ByteArray), 3)) else (if ((rd_T29 x10 x12).f1) > (wrap64 ((x0.length : Int) - ((rd_T29 x10 x12).f0))) then (some (([] : List ByteArray), 3)) else (if 0 ≤ x7 then (if x7 ≤ ((rd_T29 x10 x12).f0) then (if ((rd_T29 x10 x12).f0) ≤ (x0.length : Int) then (if x6.length + ((x0.take (((rd_T29 x10 x12).f0) : Int).toNat).drop (x7 : Int).toNat).length < 8796093022208 then ((some (x6 ++ ((x0.take (((rd_T29 x10 x12).f0) : Int).toNat).drop (x7 : Int).toNat) : List ByteArray)).bind fun y108 => (if y108.length + ((rd_T29 x10 x12).f2).length < 8796093022208 then (hunks_Apply.l0 k x0 (y108 ++ ((rd_T29 x10 x12).f2)) (wrap64 (((rd_T29 x10 x12).f0) + ((rd_T29 x10 x12).f1))) x10 x11 (wrap64 (x12 + 1))) else (none))) else (none)) else (none)) else (none)) else (none)))))) else (none)) else (none)) else (if 0 ≤ x7 then (if x7 ≤ (x0.length : Int) then (if x6.length + (x0.drop (x7 : Int).toNat).length < 8796093022208 then (some ((x6 ++ (x0.drop (x7 : Int).toNat)), 0)) else (none)) else (none)) else (none))
def hunks_Apply.f (k : Nat) (l0 : List ByteArray) (l1 : List (S29)) : Option (List ByteArray × Int) := hunks_Apply.l0 k l0 ([] : List ByteArray) 0 l1 (l1.length : Int) 0
theorem hunks_Apply.mono_l : ∀ k, (∀ y0 y1 y2 y3 y4 y5, LeO (hunks_Apply.l0 k y0 y1 y2 y3 y4 y5) (hunks_Apply.l0 (k + 1) y0 y1 y2 y3 y4 y5))
  | 0 => fun _ _ _ _ _ _ r h => by simp [hunks_Apply.l0] at h
  | k + 1 => by
    have ih0 := hunks_Apply.mono_l k
    · intro y0 y1 y2 y3 y4 y5
      unfold hunks_Apply.l0
      repeat' first
      | (with_reducible exact ih0 _ _ _ _ _ _)
      | (with_reducible exact LeO.refl _)
      | (with_reducible exact LeO.none _)
      | (with_reducible refine LeO.ite ?_ ?_)
      | (with_reducible refine LeO.bind ?_ (fun _ => ?_))
      | exact ih0 _ _ _ _ _ _
      | exact LeO.none _
      | refine LeO.ite ?_ ?_
      | refine LeO.bind ?_ (fun _ => ?_)
theorem hunks_Apply.mono : ∀ a0 a1 k, LeO (hunks_Apply.f k a0 a1) (hunks_Apply.f (k + 1) a0 a1) := by
  intro a0 a1 k
  have ih0 := hunks_Apply.mono_l k
  unfold hunks_Apply.f
  repeat' first
      | (with_reducible exact ih0 _ _ _ _ _ _)
      | (with_reducible exact LeO.refl _)
      | (with_reducible exact LeO.none _)
      | (with_reducible refine LeO.ite ?_ ?_)
      | (with_reducible refine LeO.bind ?_ (fun _ => ?_))
      | exact ih0 _ _ _ _ _ _
      | exact LeO.none _
      | refine LeO.ite ?_ ?_
      | refine LeO.bind ?_ (fun _ => ?_)
set_option maxHeartbeats 8000000 in
set_option maxRecDepth 100000 in
theorem hunks_Apply.calls (k : Nat) (A0 : Option Addr) (c0 : Nat) (l0 : List ByteArray) (A1 : Option Addr) (c1 : Nat) (l1 : List (S29)) (r1 : List ByteArray) (r2 : Int) (w : World) (hr0 : Kd.C Kd.string w A0 l0.length l0) (hc0 : l0.length ≤ c0) (hr1 : Kd.C k29 w A1 l1.length l1) (hc1 : l1.length ≤ c1) (h : hunks_Apply.f k l0 l1 = some (r1, r2)) :
    Calls Tryd.prog 6 #[.slice A0 l0.length c0, .slice A1 l1.length c1] w fun e w' => ∃ v0_ : Value, e = .returned (.tuple #[v0_, .int .i64 r2]) ∧ Kd.R Kd.string 9 w' w.heap.size (fun _ => True) v0_ r1 ∧ Below w.heap.size w w' := by
  have hu29 := Tryd.underlying29
  have HR0 := Aside0.mk hr0
  have HC0 := Aside0.mk hc0
  clear hr0 hc0
  have HR1 := Aside0.mk hr1
  have HC1 := Aside0.mk hc1
  clear hr1 hc1
  have HB := Aside0.mk (Below.refl w.heap.size w)
  have H : (hunks_Apply.l0 k l0 ([] : List ByteArray) 0 l1 (l1.length : Int) 0) = some (r1, r2) := h
  clear h
  have H' := Aside0.mk H
  clear H
  go_enter Tryd.func6, Tryd.ntmps6
  go_wp2
  go_loopg [6, 7, 12] k (fun kq v6 v7 v12 w' => ∃ (x6_1 : List ByteArray) (x7_1 : Int) (x12_1 : Int), v7 = .int .i64 x7_1 ∧ v12 = .int .i64 x12_1 ∧ Aside0 (hunks_Apply.l0 kq l0 x6_1 x7_1 l1 (l1.length : Int) x12_1 = some (r1, r2)) ∧ Aside0 (kq ≤ k) ∧ Aside0 (Kd.R Kd.string 9 w' w.heap.size (fun _ => True) v6 x6_1) ∧ Aside0 (Below w.heap.size w w'))
  case atStart => exact ⟨(([] : List ByteArray)), (0), (0), (by first | rfl | (simp; done) | (simp [*]; done)), (by first | rfl | (simp; done) | (simp [*]; done)), H', ⟨Nat.le_refl _⟩, ⟨by first | exact Kd.R_nil _ _ _ _ _ | exact Kd.N_nil _ _ _ _ _ | exact Kd.V_nil _ _ _ _ _ | exact Kd.Q_nil _ _ _ _ _ | exact Kd.S_nil _ _ _ _ _⟩, ⟨by repeat (first | (with_reducible first | exact HB.out | apply below_alloc | apply pw_below_drewN | apply below_drew1) | exact HB.out)⟩⟩
  case round =>
    clear H'
    try clear c1
    try clear p2
    obtain ⟨x6_1, x7_1, x12_1, rfl, rfl, HA, HK1, HO_6, HB⟩ := hrel
    cases gk with
    | zero => exact absurd HA.out (by simp [hunks_Apply.l0])
    | succ k1 =>
      have H := HA.out
      clear HA
      simp only [hunks_Apply.l0] at H
      by_cases c3 : x12_1 < (l1.length : Int)
      · rw [if_pos c3] at H
        have c3b0 : decide (x12_1 < (l1.length : Int)) = true := decide_eq_true c3
        clear c3
        by_cases c4 : 0 ≤ x12_1
        · rw [if_pos c4] at H
          have c4b0 : decide (0 ≤ x12_1) = true := decide_eq_true c4
          clear c4
          by_cases c5 : x12_1 < (l1.length : Int)
          · rw [if_pos c5] at H
            have c5b0 : decide (x12_1 < (l1.length : Int)) = true := decide_eq_true c5
            clear c5
            by_cases c6 : ((rd_T29 l1 x12_1).f0) < x7_1
            · rw [if_pos c6] at H
              have c6b0 : decide (((rd_T29 l1 x12_1).f0) < x7_1) = true := decide_eq_true c6
              clear c6
              simp only [Option.some.injEq, Prod.mk.injEq] at H
              obtain ⟨rfl, rfl⟩ := H
              have p105 : 0 ≤ (x12_1 : Int) := of_decide_eq_true (by first | (with_reducible assumption) | assumption)
              have q105 : x12_1 < (l1.length : Int) := of_decide_eq_true (by first | (with_reducible assumption) | assumption)
              obtain ⟨ad105, A105_2, c105_2, e105, hx105_0, hx105_1, hx105_2, hl105_2, hi105_2⟩ := at_T29 HR1.out x12_1 p105 q105
              cases e105
              replace hx105_0 := (HB.out.cell (World.block_lt_of_cell? w _ hx105_0)).trans hx105_0
              replace hx105_1 := (HB.out.cell (World.block_lt_of_cell? w _ hx105_1)).trans hx105_1
              replace hx105_2 := (HB.out.cell (World.block_lt_of_cell? w _ hx105_2)).trans hx105_2
              have HR105_2 := Aside0.mk hi105_2
              have HC105_2 := Aside0.mk hl105_2
              clear hi105_2 hl105_2
              replace p105 := eq_true p105
              replace q105 := eq_true q105
              go_wp2_with (first | ((with_reducible refine gate_dst (N := 9) rfl ?_); (try (refine gate_guard (by rfl) ?_; dsimp only)); refine box_event ?hg (N := 9) ?hd (cs := #[.int .i64 0, .int .i64 0, .slice none 0 0]) (t := 29) ?hr ?_; (case hd => rfl); (case hg => rfl); (case hr => first | (go_simp; done) | (go_simp; rfl)); intro gb106 hg w7 hbox hb; have n0_ := Aside0.mk (Kd.R_below (by (with_reducible repeat (first | apply Kd.R_alloc | apply Kd.R_drewN | apply Kd.R_drew)); exact HO_6.out) hb); have n1_ := Aside0.mk (below_step (by repeat (first | (with_reducible first | exact HB.out | apply below_alloc | apply pw_below_drewN | apply below_drew1) | exact HB.out)) hb); have n2_ := Aside0.mk (hbox); have n3_ := Aside0.mk ((by rw [hg]; exact (below_size (by repeat (first | (with_reducible first | exact HB.out | apply below_alloc | apply pw_below_drewN | apply below_drew1) | exact HB.out))) : w.heap.size ≤ gb106)); have n4_ := Aside0.mk ((by rw [hg]; exact (below_size (by repeat (first | (with_reducible first | exact HB.out | apply below_alloc | apply pw_below_drewN | apply below_drew1) | exact HB.out))) : w.heap.size ≤ gb106)); clear HO_6; clear HB; have HO_6 := n0_; have HB := n1_; have BK106 := n2_; have GW106 := n3_; have GE106 := n4_; clear n0_ n1_ n2_ n3_ n4_; clear hb hbox hg; have hcz8_0 : w7.cell? ⟨gb106, 0, none⟩ = some (.int .i64 0) := (blk_cell BK106.out 0).trans rfl; have hcz8_1 : w7.cell? ⟨gb106, 1, none⟩ = some (.int .i64 0) := (blk_cell BK106.out 1).trans rfl; have hcz8_2 : w7.cell? ⟨gb106, 2, none⟩ = some (.slice none 0 0) := (blk_cell BK106.out 2).trans rfl; have hfz8_0 := blk_frozen BK106.out 0; have hfz8_1 := blk_frozen BK106.out 1; have hfz8_2 := blk_frozen BK106.out 2))
              go_ret2
              exact ⟨_, by first | rfl | (simp [errW_none, errW_some] <;> rfl) | (simp [*, errW_none, errW_some] <;> rfl), by first | exact Kd.R_nil _ _ _ _ _ | exact Kd.N_nil _ _ _ _ _ | exact Kd.V_nil _ _ _ _ _ | exact Kd.Q_nil _ _ _ _ _ | exact Kd.S_nil _ _ _ _ _, by repeat (first | (with_reducible first | exact HB.out | apply below_alloc | apply pw_below_drewN | apply below_drew1 | refine below_set ?_ GE106.out) | exact HB.out)⟩
            · rw [if_neg c6] at H
              have c6b0 : decide (((rd_T29 l1 x12_1).f0) < x7_1) = false := decide_eq_false c6
              clear c6
              by_cases c9 : ((rd_T29 l1 x12_1).f0) > (l0.length : Int)
              · rw [if_pos c9] at H
                have c9b0 : decide ((l0.length : Int) < ((rd_T29 l1 x12_1).f0)) = true := decide_eq_true c9
                clear c9
                simp only [Option.some.injEq, Prod.mk.injEq] at H
                obtain ⟨rfl, rfl⟩ := H
                have p105 : 0 ≤ (x12_1 : Int) := of_decide_eq_true (by first | (with_reducible assumption) | assumption)
                have q105 : x12_1 < (l1.length : Int) := of_decide_eq_true (by first | (with_reducible assumption) | assumption)
                obtain ⟨ad105, A105_2, c105_2, e105, hx105_0, hx105_1, hx105_2, hl105_2, hi105_2⟩ := at_T29 HR1.out x12_1 p105 q105
                cases e105
                replace hx105_0 := (HB.out.cell (World.block_lt_of_cell? w _ hx105_0)).trans hx105_0
                replace hx105_1 := (HB.out.cell (World.block_lt_of_cell? w _ hx105_1)).trans hx105_1
                replace hx105_2 := (HB.out.cell (World.block_lt_of_cell? w _ hx105_2)).trans hx105_2
                have HR105_2 := Aside0.mk hi105_2
                have HC105_2 := Aside0.mk hl105_2
                clear hi105_2 hl105_2
                replace p105 := eq_true p105
                replace q105 := eq_true q105
                go_wp2_with (first | ((with_reducible refine gate_dst (N := 9) rfl ?_); (try (refine gate_guard (by rfl) ?_; dsimp only)); refine box_event ?hg (N := 9) ?hd (cs := #[.int .i64 0, .int .i64 0, .slice none 0 0]) (t := 29) ?hr ?_; (case hd => rfl); (case hg => rfl); (case hr => first | (go_simp; done) | (go_simp; rfl)); intro gb106 hg w10 hbox hb; have n0_ := Aside0.mk (Kd.R_below (by (with_reducible repeat (first | apply Kd.R_alloc | apply Kd.R_drewN | apply Kd.R_drew)); exact HO_6.out) hb); have n1_ := Aside0.mk (below_step (by repeat (first | (with_reducible first | exact HB.out | apply below_alloc | apply pw_below_drewN | apply below_drew1) | exact HB.out)) hb); have n2_ := Aside0.mk (hbox); have n3_ := Aside0.mk ((by rw [hg]; exact (below_size (by repeat (first | (with_reducible first | exact HB.out | apply below_alloc | apply pw_below_drewN | apply below_drew1) | exact HB.out))) : w.heap.size ≤ gb106)); have n4_ := Aside0.mk ((by rw [hg]; exact (below_size (by repeat (first | (with_reducible first | exact HB.out | apply below_alloc | apply pw_below_drewN | apply below_drew1) | exact HB.out))) : w.heap.size ≤ gb106)); clear HO_6; clear HB; have HO_6 := n0_; have HB := n1_; have BK106 := n2_; have GW106 := n3_; have GE106 := n4_; clear n0_ n1_ n2_ n3_ n4_; clear hb hbox hg; have hcz11_0 : w10.cell? ⟨gb106, 0, none⟩ = some (.int .i64 0) := (blk_cell BK106.out 0).trans rfl; have hcz11_1 : w10.cell? ⟨gb106, 1, none⟩ = some (.int .i64 0) := (blk_cell BK106.out 1).trans rfl; have hcz11_2 : w10.cell? ⟨gb106, 2, none⟩ = some (.slice none 0 0) := (blk_cell BK106.out 2).trans rfl; have hfz11_0 := blk_frozen BK106.out 0; have hfz11_1 := blk_frozen BK106.out 1; have hfz11_2 := blk_frozen BK106.out 2))
                go_ret2
                exact ⟨_, by first | rfl | (simp [errW_none, errW_some] <;> rfl) | (simp [*, errW_none, errW_some] <;> rfl), by first | exact Kd.R_nil _ _ _ _ _ | exact Kd.N_nil _ _ _ _ _ | exact Kd.V_nil _ _ _ _ _ | exact Kd.Q_nil _ _ _ _ _ | exact Kd.S_nil _ _ _ _ _, by repeat (first | (with_reducible first | exact HB.out | apply below_alloc | apply pw_below_drewN | apply below_drew1 | refine below_set ?_ GE106.out) | exact HB.out)⟩
              · rw [if_neg c9] at H
                have c9b0 : decide ((l0.length : Int) < ((rd_T29 l1 x12_1).f0)) = false := decide_eq_false c9
                clear c9
                by_cases c12 : ((rd_T29 l1 x12_1).f1) < 0
                · rw [if_pos c12] at H
                  have c12b0 : decide (((rd_T29 l1 x12_1).f1) < 0) = true := decide_eq_true c12
                  clear c12
                  simp only [Option.some.injEq, Prod.mk.injEq] at H
                  obtain ⟨rfl, rfl⟩ := H
                  have p105 : 0 ≤ (x12_1 : Int) := of_decide_eq_true (by first | (with_reducible assumption) | assumption)
                  have q105 : x12_1 < (l1.length : Int) := of_decide_eq_true (by first | (with_reducible assumption) | assumption)
                  obtain ⟨ad105, A105_2, c105_2, e105, hx105_0, hx105_1, hx105_2, hl105_2, hi105_2⟩ := at_T29 HR1.out x12_1 p105 q105
                  cases e105
                  replace hx105_0 := (HB.out.cell (World.block_lt_of_cell? w _ hx105_0)).trans hx105_0
                  replace hx105_1 := (HB.out.cell (World.block_lt_of_cell? w _ hx105_1)).trans hx105_1
                  replace hx105_2 := (HB.out.cell (World.block_lt_of_cell? w _ hx105_2)).trans hx105_2
                  have HR105_2 := Aside0.mk hi105_2
                  have HC105_2 := Aside0.mk hl105_2
                  clear hi105_2 hl105_2
                  replace p105 := eq_true p105
                  replace q105 := eq_true q105
                  go_wp2_with (first | ((with_reducible refine gate_dst (N := 9) rfl ?_); (try (refine gate_guard (by rfl) ?_; dsimp only)); refine box_event ?hg (N := 9) ?hd (cs := #[.int .i64 0, .int .i64 0, .slice none 0 0]) (t := 29) ?hr ?_; (case hd => rfl); (case hg => rfl); (case hr => first | (go_simp; done) | (go_simp; rfl)); intro gb106 hg w13 hbox hb; have n0_ := Aside0.mk (Kd.R_below (by (with_reducible repeat (first | apply Kd.R_alloc | apply Kd.R_drewN | apply Kd.R_drew)); exact HO_6.out) hb); have n1_ := Aside0.mk (below_step (by repeat (first | (with_reducible first | exact HB.out | apply below_alloc | apply pw_below_drewN | apply below_drew1) | exact HB.out)) hb); have n2_ := Aside0.mk (hbox); have n3_ := Aside0.mk ((by rw [hg]; exact (below_size (by repeat (first | (with_reducible first | exact HB.out | apply below_alloc | apply pw_below_drewN | apply below_drew1) | exact HB.out))) : w.heap.size ≤ gb106)); have n4_ := Aside0.mk ((by rw [hg]; exact (below_size (by repeat (first | (with_reducible first | exact HB.out | apply below_alloc | apply pw_below_drewN | apply below_drew1) | exact HB.out))) : w.heap.size ≤ gb106)); clear HO_6; clear HB; have HO_6 := n0_; have HB := n1_; have BK106 := n2_; have GW106 := n3_; have GE106 := n4_; clear n0_ n1_ n2_ n3_ n4_; clear hb hbox hg; have hcz14_0 : w13.cell? ⟨gb106, 0, none⟩ = some (.int .i64 0) := (blk_cell BK106.out 0).trans rfl; have hcz14_1 : w13.cell? ⟨gb106, 1, none⟩ = some (.int .i64 0) := (blk_cell BK106.out 1).trans rfl; have hcz14_2 : w13.cell? ⟨gb106, 2, none⟩ = some (.slice none 0 0) := (blk_cell BK106.out 2).trans rfl; have hfz14_0 := blk_frozen BK106.out 0; have hfz14_1 := blk_frozen BK106.out 1; have hfz14_2 := blk_frozen BK106.out 2))
                  go_ret2
                  exact ⟨_, by first | rfl | (simp [errW_none, errW_some] <;> rfl) | (simp [*, errW_none, errW_some] <;> rfl), by first | exact Kd.R_nil _ _ _ _ _ | exact Kd.N_nil _ _ _ _ _ | exact Kd.V_nil _ _ _ _ _ | exact Kd.Q_nil _ _ _ _ _ | exact Kd.S_nil _ _ _ _ _, by repeat (first | (with_reducible first | exact HB.out | apply below_alloc | apply pw_below_drewN | apply below_drew1 | refine below_set ?_ GE106.out) | exact HB.out)⟩
                · rw [if_neg c12] at H
                  have c12b0 : decide (((rd_T29 l1 x12_1).f1) < 0) = false := decide_eq_false c12
                  clear c12
                  by_cases c15 : ((rd_T29 l1 x12_1).f1) > (wrap64 ((l0.length : Int) - ((rd_T29 l1 x12_1).f0)))
                  · rw [if_pos c15] at H
                    have c15b0 : decide ((wrap64 ((l0.length : Int) - ((rd_T29 l1 x12_1).f0))) < ((rd_T29 l1 x12_1).f1)) = true := decide_eq_true c15
                    clear c15
                    simp only [Option.some.injEq, Prod.mk.injEq] at H
                    obtain ⟨rfl, rfl⟩ := H
                    have p105 : 0 ≤ (x12_1 : Int) := of_decide_eq_true (by first | (with_reducible assumption) | assumption)
                    have q105 : x12_1 < (l1.length : Int) := of_decide_eq_true (by first | (with_reducible assumption) | assumption)
                    obtain ⟨ad105, A105_2, c105_2, e105, hx105_0, hx105_1, hx105_2, hl105_2, hi105_2⟩ := at_T29 HR1.out x12_1 p105 q105
                    cases e105
                    replace hx105_0 := (HB.out.cell (World.block_lt_of_cell? w _ hx105_0)).trans hx105_0
                    replace hx105_1 := (HB.out.cell (World.block_lt_of_cell? w _ hx105_1)).trans hx105_1
                    replace hx105_2 := (HB.out.cell (World.block_lt_of_cell? w _ hx105_2)).trans hx105_2
                    have HR105_2 := Aside0.mk hi105_2
                    have HC105_2 := Aside0.mk hl105_2
                    clear hi105_2 hl105_2
                    replace p105 := eq_true p105
                    replace q105 := eq_true q105
                    try have c15b0w0 := by have h_ := c15b0; rw [show wrap64 ((l0.length : Int) - ((rd_T29 l1 x12_1).f0)) = (l0.length : Int) - ((rd_T29 l1 x12_1).f0) from by unfold wrap64; omega] at h_; exact h_
                    go_wp2_with (first | ((with_reducible refine gate_dst (N := 9) rfl ?_); (try (refine gate_guard (by rfl) ?_; dsimp only)); refine box_event ?hg (N := 9) ?hd (cs := #[.int .i64 0, .int .i64 0, .slice none 0 0]) (t := 29) ?hr ?_; (case hd => rfl); (case hg => rfl); (case hr => first | (go_simp; done) | (go_simp; rfl)); intro gb106 hg w16 hbox hb; have n0_ := Aside0.mk (Kd.R_below (by (with_reducible repeat (first | apply Kd.R_alloc | apply Kd.R_drewN | apply Kd.R_drew)); exact HO_6.out) hb); have n1_ := Aside0.mk (below_step (by repeat (first | (with_reducible first | exact HB.out | apply below_alloc | apply pw_below_drewN | apply below_drew1) | exact HB.out)) hb); have n2_ := Aside0.mk (hbox); have n3_ := Aside0.mk ((by rw [hg]; exact (below_size (by repeat (first | (with_reducible first | exact HB.out | apply below_alloc | apply pw_below_drewN | apply below_drew1) | exact HB.out))) : w.heap.size ≤ gb106)); have n4_ := Aside0.mk ((by rw [hg]; exact (below_size (by repeat (first | (with_reducible first | exact HB.out | apply below_alloc | apply pw_below_drewN | apply below_drew1) | exact HB.out))) : w.heap.size ≤ gb106)); clear HO_6; clear HB; have HO_6 := n0_; have HB := n1_; have BK106 := n2_; have GW106 := n3_; have GE106 := n4_; clear n0_ n1_ n2_ n3_ n4_; clear hb hbox hg; have hcz17_0 : w16.cell? ⟨gb106, 0, none⟩ = some (.int .i64 0) := (blk_cell BK106.out 0).trans rfl; have hcz17_1 : w16.cell? ⟨gb106, 1, none⟩ = some (.int .i64 0) := (blk_cell BK106.out 1).trans rfl; have hcz17_2 : w16.cell? ⟨gb106, 2, none⟩ = some (.slice none 0 0) := (blk_cell BK106.out 2).trans rfl; have hfz17_0 := blk_frozen BK106.out 0; have hfz17_1 := blk_frozen BK106.out 1; have hfz17_2 := blk_frozen BK106.out 2))
                    go_ret2
                    exact ⟨_, by first | rfl | (simp [errW_none, errW_some] <;> rfl) | (simp [*, errW_none, errW_some] <;> rfl), by first | exact Kd.R_nil _ _ _ _ _ | exact Kd.N_nil _ _ _ _ _ | exact Kd.V_nil _ _ _ _ _ | exact Kd.Q_nil _ _ _ _ _ | exact Kd.S_nil _ _ _ _ _, by repeat (first | (with_reducible first | exact HB.out | apply below_alloc | apply pw_below_drewN | apply below_drew1 | refine below_set ?_ GE106.out) | exact HB.out)⟩
                  · rw [if_neg c15] at H
                    have c15b0 : decide ((wrap64 ((l0.length : Int) - ((rd_T29 l1 x12_1).f0))) < ((rd_T29 l1 x12_1).f1)) = false := decide_eq_false c15
                    clear c15
                    by_cases c18 : 0 ≤ x7_1
                    · rw [if_pos c18] at H
                      have c18b0 := eq_true c18
                      have c18b1 : decide (0 ≤ x7_1) = true := decide_eq_true c18
                      clear c18
                      by_cases c19 : x7_1 ≤ ((rd_T29 l1 x12_1).f0)
                      · rw [if_pos c19] at H
                        have c19b0 := eq_true c19
                        have c19b1 : decide (x7_1 ≤ ((rd_T29 l1 x12_1).f0)) = true := decide_eq_true c19
                        clear c19
                        by_cases c20 : ((rd_T29 l1 x12_1).f0) ≤ (l0.length : Int)
                        · rw [if_pos c20] at H
                          have c20b0 := eq_true c20
                          have c20b1 : decide (((rd_T29 l1 x12_1).f0) ≤ (l0.length : Int)) = true := decide_eq_true c20
                          clear c20
                          by_cases c21 : x6_1.length + ((l0.take (((rd_T29 l1 x12_1).f0) : Int).toNat).drop (x7_1 : Int).toNat).length < 8796093022208
                          · rw [if_pos c21] at H
                            have LMc21 := Aside0.mk c21
                            clear c21
                            obtain ⟨y108, hy108⟩ : ∃ y_ : List ByteArray, y_ = (x6_1 ++ ((l0.take (((rd_T29 l1 x12_1).f0) : Int).toNat).drop (x7_1 : Int).toNat)) := ⟨_, rfl⟩
                            replace H : (if y108.length + ((rd_T29 l1 x12_1).f2).length < 8796093022208 then (hunks_Apply.l0 k1 l0 (y108 ++ ((rd_T29 l1 x12_1).f2)) (wrap64 (((rd_T29 l1 x12_1).f0) + ((rd_T29 l1 x12_1).f1))) l1 (l1.length : Int) (wrap64 (x12_1 + 1))) else (none)) = some (r1, r2) := by first | (rw [hy108]; with_reducible exact H) | (have H2_ := (Option.bind_some _ _).symm.trans H; rw [hy108]; with_reducible exact H2_) | (have H2_ := (Option.bind_some _ _).symm.trans H; with_reducible exact H2_) | with_reducible exact H | (rw [hy108]; exact H) | exact H
                            have Ny108 := Aside0.mk hy108
                            clear hy108
                            by_cases c22 : y108.length + ((rd_T29 l1 x12_1).f2).length < 8796093022208
                            · rw [if_pos c22] at H
                              have LMc22 := Aside0.mk c22
                              clear c22
                              obtain ⟨y111, hy111⟩ : ∃ y_ : List ByteArray, y_ = (y108 ++ ((rd_T29 l1 x12_1).f2)) := ⟨_, rfl⟩
                              replace H : (hunks_Apply.l0 k1 l0 y111 (wrap64 (((rd_T29 l1 x12_1).f0) + ((rd_T29 l1 x12_1).f1))) l1 (l1.length : Int) (wrap64 (x12_1 + 1))) = some (r1, r2) := by first | (rw [hy111]; with_reducible exact H) | (have H2_ := (Option.bind_some _ _).symm.trans H; rw [hy111]; with_reducible exact H2_) | (have H2_ := (Option.bind_some _ _).symm.trans H; with_reducible exact H2_) | with_reducible exact H | (rw [hy111]; exact H) | exact H
                              have Ny111 := Aside0.mk hy111
                              clear hy111
                              have H' := Aside0.mk H
                              clear H
                              have p105 : 0 ≤ (x12_1 : Int) := of_decide_eq_true (by first | (with_reducible assumption) | assumption)
                              have q105 : x12_1 < (l1.length : Int) := of_decide_eq_true (by first | (with_reducible assumption) | assumption)
                              obtain ⟨ad105, A105_2, c105_2, e105, hx105_0, hx105_1, hx105_2, hl105_2, hi105_2⟩ := at_T29 HR1.out x12_1 p105 q105
                              cases e105
                              replace hx105_0 := (HB.out.cell (World.block_lt_of_cell? w _ hx105_0)).trans hx105_0
                              replace hx105_1 := (HB.out.cell (World.block_lt_of_cell? w _ hx105_1)).trans hx105_1
                              replace hx105_2 := (HB.out.cell (World.block_lt_of_cell? w _ hx105_2)).trans hx105_2
                              have HR105_2 := Aside0.mk hi105_2
                              have HC105_2 := Aside0.mk hl105_2
                              clear hi105_2 hl105_2
                              replace p105 := eq_true p105
                              replace q105 := eq_true q105
                              try have c15b0w0 := by have h_ := c15b0; rw [show wrap64 ((l0.length : Int) - ((rd_T29 l1 x12_1).f0)) = (l0.length : Int) - ((rd_T29 l1 x12_1).f0) from by unfold wrap64; omega] at h_; exact h_
                              go_wp2_with (first | ((with_reducible refine gate_dst (N := 9) rfl ?_); (try (refine gate_guard (by rfl) ?_; dsimp only)); refine box_event ?hg (N := 9) ?hd (cs := #[.int .i64 0, .int .i64 0, .slice none 0 0]) (t := 29) ?hr ?_; (case hd => rfl); (case hg => rfl); (case hr => first | (go_simp; done) | (go_simp; rfl)); intro gb106 hg w23 hbox hb; have n0_ := Aside0.mk (Kd.R_below (by (with_reducible repeat (first | apply Kd.R_alloc | apply Kd.R_drewN | apply Kd.R_drew)); exact HO_6.out) hb); have n1_ := Aside0.mk (below_step (by repeat (first | (with_reducible first | exact HB.out | apply below_alloc | apply pw_below_drewN | apply below_drew1) | exact HB.out)) hb); have n2_ := Aside0.mk (hbox); have n3_ := Aside0.mk ((by rw [hg]; exact (below_size (by repeat (first | (with_reducible first | exact HB.out | apply below_alloc | apply pw_below_drewN | apply below_drew1) | exact HB.out))) : w.heap.size ≤ gb106)); have n4_ := Aside0.mk ((by rw [hg]; exact (below_size (by repeat (first | (with_reducible first | exact HB.out | apply below_alloc | apply pw_below_drewN | apply below_drew1) | exact HB.out))) : w.heap.size ≤ gb106)); clear HO_6; clear HB; have HO_6 := n0_; have HB := n1_; have BK106 := n2_; have GW106 := n3_; have GE106 := n4_; clear n0_ n1_ n2_ n3_ n4_; clear hb hbox hg; have hcz24_0 : w23.cell? ⟨gb106, 0, none⟩ = some (.int .i64 0) := (blk_cell BK106.out 0).trans rfl; have hcz24_1 : w23.cell? ⟨gb106, 1, none⟩ = some (.int .i64 0) := (blk_cell BK106.out 1).trans rfl; have hcz24_2 : w23.cell? ⟨gb106, 2, none⟩ = some (.slice none 0 0) := (blk_cell BK106.out 2).trans rfl; have hfz24_0 := blk_frozen BK106.out 0; have hfz24_1 := blk_frozen BK106.out 1; have hfz24_2 := blk_frozen BK106.out 2; obtain ⟨i025, hi025, _, hsz25, _⟩ := info_parts info9; obtain ⟨A25, hcut25, hA25, hC25⟩ := print_mid_of (P := Tryd.prog) Value.string (⟨#[]⟩ : ByteArray) 22 9 .i64 .i64 Tryd.underlying22 hi025 hsz25 A0 c0 l0 x7_1 ((rd_T29 l1 x12_1).f0) (of_decide_eq_true (by first | (with_reducible assumption) | assumption)) (by first | omega | exact of_decide_eq_true (by first | (with_reducible assumption) | assumption)) (of_decide_eq_true (by first | (with_reducible assumption) | assumption)) HC0.out; have HR107 := Aside0.mk (Kd.C_of_reads (h1 := fun _ => rfl) (hA25 _ (Kd.reads_of_C HR0.out))); have HC107 := Aside0.mk hC25; clear hA25 hC25 hi025 hsz25) | ((with_reducible refine gate_builtin (b := .append) (xs := #[.tmp 42, .tmp 47]) rfl ?_); (try (refine gate_guard (by rfl) ?_; dsimp only)); at_builtin; refine Kd.R_append_rows Kd.string (w0 := w) w.heap.size rfl (.tmp 42) (.tmp 47) 22 9 (.string ⟨#[]⟩) 16 rfl Tryd.underlying22 info9 rfl (by decide) (by omega) u6 x6_1 ((l0.take (((rd_T29 l1 x12_1).f0) : Int).toNat).drop (x7_1 : Int).toNat) _ _ _ (fun _ => True) (fun _ => False) rfl rfl ?aO ?aR (fun _ _ h => h) (fun _ h => h.elim) ?aF ?aB ?aS ?aL ?_; (case aR => first | (rw [← show ((l0.take (((rd_T29 l1 x12_1).f0) : Int).toNat).drop (x7_1 : Int).toNat).length = (((rd_T29 l1 x12_1).f0).toNat - x7_1.toNat) from (by rw [List.length_drop, List.length_take]; have h_ : (((rd_T29 l1 x12_1).f0) : Int) ≤ (l0.length : Int) := of_decide_eq_true (by first | (with_reducible assumption) | assumption); omega)]; exact Kd.C_below HR107.out (by repeat (first | (with_reducible first | exact HB.out | apply below_alloc | apply pw_below_drewN | apply below_drew1 | refine below_set ?_ GE106.out) | exact HB.out))) | (exact Kd.C_below HR107.out (by repeat (first | (with_reducible first | exact HB.out | apply below_alloc | apply pw_below_drewN | apply below_drew1 | refine below_set ?_ GE106.out) | exact HB.out)))); (case aB => exact (by repeat (first | (with_reducible first | exact HB.out | apply below_alloc | apply pw_below_drewN | apply below_drew1 | refine below_set ?_ GE106.out) | exact HB.out))); (case aF => exact (fun _ _ => trivial)); (case aO => exact (by (with_reducible repeat (first | apply Kd.R_alloc | apply Kd.R_drewN | apply Kd.R_drew)); exact Kd.R_mono (Kd.R_far (p := ⟨gb106, 2, none⟩) (Kd.R_far (p := ⟨gb106, 1, none⟩) (Kd.R_far (p := ⟨gb106, 0, none⟩) (Kd.R_types HO_6.out BK106.out (by decide)) (fun _ hk => hk.2) (.int .i64 ((rd_T29 l1 x12_1).f0))) (fun _ hk => hk.2) (.int .i64 ((rd_T29 l1 x12_1).f1))) (fun _ hk => hk.2) (.slice A105_2 ((rd_T29 l1 x12_1).f2).length c105_2)) (fun _ hk => trivial))); (case aS => exact (below_size (by repeat (first | (with_reducible first | exact HB.out | apply below_alloc | apply pw_below_drewN | apply below_drew1 | refine below_set ?_ GE106.out) | exact HB.out)))); (case aL => have := LMc21.out; have hlx_ := (show ((l0.take (((rd_T29 l1 x12_1).f0) : Int).toNat).drop (x7_1 : Int).toNat).length = (((rd_T29 l1 x12_1).f0).toNat - x7_1.toNat) from (by rw [List.length_drop, List.length_take]; have h_ : (((rd_T29 l1 x12_1).f0) : Int) ≤ (l0.length : Int) := of_decide_eq_true (by first | (with_reducible assumption) | assumption); omega)); omega); intro v109 w26 ho hb hg hat; rw [← Ny108.out] at ho; have n0_ := Aside0.mk (blk_grown (g := gb106) (o := .cells #[.int .i64 ((rd_T29 l1 x12_1).f0), .int .i64 ((rd_T29 l1 x12_1).f1), .slice A105_2 ((rd_T29 l1 x12_1).f2).length c105_2] 29 (0, 0)) (by (with_reducible repeat (first | refine blk_drewN ?_ _ | refine blk_drew ?_ | refine blk_alloc ?_ _)); refine blk_put (cs := #[.int .i64 ((rd_T29 l1 x12_1).f0), .int .i64 ((rd_T29 l1 x12_1).f1), .slice none 0 0]) ?_ 2 _ rfl; (with_reducible repeat (first | refine blk_drewN ?_ _ | refine blk_drew ?_ | refine blk_alloc ?_ _)); refine blk_put (cs := #[.int .i64 ((rd_T29 l1 x12_1).f0), .int .i64 0, .slice none 0 0]) ?_ 1 _ rfl; (with_reducible repeat (first | refine blk_drewN ?_ _ | refine blk_drew ?_ | refine blk_alloc ?_ _)); refine blk_put (cs := #[.int .i64 0, .int .i64 0, .slice none 0 0]) ?_ 0 _ rfl; (with_reducible repeat (first | refine blk_drewN ?_ _ | refine blk_drew ?_ | refine blk_alloc ?_ _)); exact BK106.out) hg (Kd.R_ne HO_6.out BK106.out (by decide))); have n1_ := Aside0.mk (hb); have n2_ := Aside0.mk (ho); clear BK106; clear HB; clear HO_6; have BK106 := n0_; have HB := n1_; have HO110 := n2_; clear n0_ n1_ n2_; clear ho hb hg hat; have hcz27_0 : w26.cell? ⟨gb106, 0, none⟩ = some (.int .i64 ((rd_T29 l1 x12_1).f0)) := (blk_cell BK106.out 0).trans rfl; have hcz27_1 : w26.cell? ⟨gb106, 1, none⟩ = some (.int .i64 ((rd_T29 l1 x12_1).f1)) := (blk_cell BK106.out 1).trans rfl; have hcz27_2 : w26.cell? ⟨gb106, 2, none⟩ = some (.slice A105_2 ((rd_T29 l1 x12_1).f2).length c105_2) := (blk_cell BK106.out 2).trans rfl; have hfz27_0 := blk_frozen BK106.out 0; have hfz27_1 := blk_frozen BK106.out 1; have hfz27_2 := blk_frozen BK106.out 2) | ((with_reducible refine gate_builtin (b := .append) (xs := #[.tmp 49, .tmp 51]) rfl ?_); (try (refine gate_guard (by rfl) ?_; dsimp only)); at_builtin; refine Kd.R_append_rows Kd.string (w0 := w) w.heap.size rfl (.tmp 49) (.tmp 51) 22 9 (.string ⟨#[]⟩) 16 rfl Tryd.underlying22 info9 rfl (by decide) (by omega) v109 y108 ((rd_T29 l1 x12_1).f2) _ _ _ (fun _ => True) (fun _ => False) rfl rfl ?aO ?aR (fun _ _ h => h) (fun _ h => h.elim) ?aF ?aB ?aS ?aL ?_; (case aR => repeat (first | exact (Kd.C_below HR105_2.out HB.out) | (with_reducible refine Kd.C_alloc ?_ _) | (with_reducible refine Kd.C_drewN ?_ _) | (with_reducible refine Kd.C_drew ?_))); (case aB => exact (by repeat (first | (with_reducible first | exact HB.out | apply below_alloc | apply pw_below_drewN | apply below_drew1 | refine below_set ?_ GE106.out) | exact HB.out))); (case aF => exact (fun _ _ => trivial)); (case aO => exact (by (with_reducible repeat (first | apply Kd.R_alloc | apply Kd.R_drewN | apply Kd.R_drew)); exact HO110.out)); (case aS => exact (below_size (by repeat (first | (with_reducible first | exact HB.out | apply below_alloc | apply pw_below_drewN | apply below_drew1 | refine below_set ?_ GE106.out) | exact HB.out)))); (case aL => have := LMc22.out; omega); intro v112 w28 ho hb hg hat; rw [← Ny111.out] at ho; have n0_ := Aside0.mk (blk_grown (g := gb106) (o := .cells #[.int .i64 ((rd_T29 l1 x12_1).f0), .int .i64 ((rd_T29 l1 x12_1).f1), .slice A105_2 ((rd_T29 l1 x12_1).f2).length c105_2] 29 (0, 0)) (by (with_reducible repeat (first | refine blk_drewN ?_ _ | refine blk_drew ?_ | refine blk_alloc ?_ _)); exact BK106.out) hg (Kd.R_ne HO110.out BK106.out (by decide))); have n1_ := Aside0.mk (hb); have n2_ := Aside0.mk (ho); clear BK106; clear HB; clear HO110; have BK106 := n0_; have HB := n1_; have HO113 := n2_; clear n0_ n1_ n2_; clear ho hb hg hat; have hcz29_0 : w28.cell? ⟨gb106, 0, none⟩ = some (.int .i64 ((rd_T29 l1 x12_1).f0)) := (blk_cell BK106.out 0).trans rfl; have hcz29_1 : w28.cell? ⟨gb106, 1, none⟩ = some (.int .i64 ((rd_T29 l1 x12_1).f1)) := (blk_cell BK106.out 1).trans rfl; have hcz29_2 : w28.cell? ⟨gb106, 2, none⟩ = some (.slice A105_2 ((rd_T29 l1 x12_1).f2).length c105_2) := (blk_cell BK106.out 2).trans rfl; have hfz29_0 := blk_frozen BK106.out 0; have hfz29_1 := blk_frozen BK106.out 1; have hfz29_2 := blk_frozen BK106.out 2))
                              go_roundg k1
                              case measure => have := HK1.out; omega
                              case rel => exact ⟨(y111), (wrap64 (((rd_T29 l1 x12_1).f0) + ((rd_T29 l1 x12_1).f1))), (wrap64 (x12_1 + 1)), (by first | rfl | (simp; done) | (simp [*]; done)), (by first | rfl | (simp; done) | (simp [*]; done)), H', ⟨by have := HK1.out; omega⟩, ⟨by (with_reducible repeat (first | apply Kd.R_alloc | apply Kd.R_drewN | apply Kd.R_drew)); exact HO113.out⟩, ⟨by repeat (first | (with_reducible first | exact HB.out | apply below_alloc | apply pw_below_drewN | apply below_drew1 | refine below_set ?_ GE106.out) | exact HB.out)⟩⟩
                            · rw [if_neg c22] at H
                              exact absurd H (by simp)
                          · rw [if_neg c21] at H
                            exact absurd H (by simp)
                        · rw [if_neg c20] at H
                          exact absurd H (by simp)
                      · rw [if_neg c19] at H
                        exact absurd H (by simp)
                    · rw [if_neg c18] at H
                      exact absurd H (by simp)
          · rw [if_neg c5] at H
            exact absurd H (by simp)
        · rw [if_neg c4] at H
          exact absurd H (by simp)
      · rw [if_neg c3] at H
        have c3b0 : decide (x12_1 < (l1.length : Int)) = false := decide_eq_false c3
        clear c3
        by_cases c30 : 0 ≤ x7_1
        · rw [if_pos c30] at H
          have c30b0 := eq_true c30
          have c30b1 : decide (0 ≤ x7_1) = true := decide_eq_true c30
          clear c30
          by_cases c31 : x7_1 ≤ (l0.length : Int)
          · rw [if_pos c31] at H
            have c31b0 := eq_true c31
            have c31b1 : decide (x7_1 ≤ (l0.length : Int)) = true := decide_eq_true c31
            clear c31
            by_cases c32 : x6_1.length + (l0.drop (x7_1 : Int).toNat).length < 8796093022208
            · rw [if_pos c32] at H
              have LMc32 := Aside0.mk c32
              clear c32
              obtain ⟨y115, hy115⟩ : ∃ y_ : List ByteArray, y_ = (x6_1 ++ (l0.drop (x7_1 : Int).toNat)) := ⟨_, rfl⟩
              replace H : (some (y115, 0)) = some (r1, r2) := by first | (rw [hy115]; with_reducible exact H) | (have H2_ := (Option.bind_some _ _).symm.trans H; rw [hy115]; with_reducible exact H2_) | (have H2_ := (Option.bind_some _ _).symm.trans H; with_reducible exact H2_) | with_reducible exact H | (rw [hy115]; exact H) | exact H
              have Ny115 := Aside0.mk hy115
              clear hy115
              simp only [Option.some.injEq, Prod.mk.injEq] at H
              obtain ⟨rfl, rfl⟩ := H
              obtain ⟨i033, hi033, _, hsz33, _⟩ := info_parts info9
              obtain ⟨A33, hcut33, hA33, hC33⟩ := print_drop_of (P := Tryd.prog) Value.string (⟨#[]⟩ : ByteArray) 22 9 .i64 Tryd.underlying22 hi033 hsz33 A0 c0 l0 x7_1 (of_decide_eq_true (by first | (with_reducible assumption) | assumption)) (of_decide_eq_true (by first | (with_reducible assumption) | assumption)) HC0.out
              have HR114 := Aside0.mk (Kd.C_of_reads (h1 := fun _ => rfl) (hA33 _ (Kd.reads_of_C HR0.out)))
              have HC114 := Aside0.mk hC33
              clear hA33 hC33 hi033 hsz33
              go_wp2_with (first | ((with_reducible refine gate_builtin (b := .append) (xs := #[.tmp 59, .tmp 62]) rfl ?_); (try (refine gate_guard (by rfl) ?_; dsimp only)); at_builtin; refine Kd.R_append_rows Kd.string (w0 := w) w.heap.size rfl (.tmp 59) (.tmp 62) 22 9 (.string ⟨#[]⟩) 16 rfl Tryd.underlying22 info9 rfl (by decide) (by omega) u6 x6_1 (l0.drop (x7_1 : Int).toNat) _ _ _ (fun _ => True) (fun _ => False) rfl rfl ?aO ?aR (fun _ _ h => h) (fun _ h => h.elim) ?aF ?aB ?aS ?aL ?_; (case aR => first | (rw [← show (l0.drop (x7_1 : Int).toNat).length = (l0.length - x7_1.toNat) from List.length_drop]; repeat (first | exact (Kd.C_below HR114.out HB.out) | (with_reducible refine Kd.C_alloc ?_ _) | (with_reducible refine Kd.C_drewN ?_ _) | (with_reducible refine Kd.C_drew ?_))) | (repeat (first | exact (Kd.C_below HR114.out HB.out) | (with_reducible refine Kd.C_alloc ?_ _) | (with_reducible refine Kd.C_drewN ?_ _) | (with_reducible refine Kd.C_drew ?_)))); (case aB => exact (by repeat (first | (with_reducible first | exact HB.out | apply below_alloc | apply pw_below_drewN | apply below_drew1) | exact HB.out))); (case aF => exact (fun _ _ => trivial)); (case aO => exact (by (with_reducible repeat (first | apply Kd.R_alloc | apply Kd.R_drewN | apply Kd.R_drew)); exact HO_6.out)); (case aS => exact (below_size (by repeat (first | (with_reducible first | exact HB.out | apply below_alloc | apply pw_below_drewN | apply below_drew1) | exact HB.out)))); (case aL => have := LMc32.out; have hlx_ := (show (l0.drop (x7_1 : Int).toNat).length = (l0.length - x7_1.toNat) from List.length_drop); omega); intro v116 w34 ho hb hg hat; rw [← Ny115.out] at ho; have n0_ := Aside0.mk (hb); have n1_ := Aside0.mk (ho); clear HB; clear HO_6; have HB := n0_; have HO117 := n1_; clear n0_ n1_; clear ho hb hg hat))
              go_ret2
              exact ⟨_, by first | rfl | (simp [errW_none, errW_some] <;> rfl) | (simp [*, errW_none, errW_some] <;> rfl), by (with_reducible repeat (first | apply Kd.R_alloc | apply Kd.R_drewN | apply Kd.R_drew)); exact HO117.out, by repeat (first | (with_reducible first | exact HB.out | apply below_alloc | apply pw_below_drewN | apply below_drew1) | exact HB.out)⟩
            · rw [if_neg c32] at H
              exact absurd H (by simp)
          · rw [if_neg c31] at H
            exact absurd H (by simp)
        · rw [if_neg c30] at H
          exact absurd H (by simp)

end Go.Proofs.YtgcilgjkihmclaaDoor.P
