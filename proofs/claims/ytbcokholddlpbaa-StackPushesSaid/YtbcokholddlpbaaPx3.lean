-- Laid by a program of this session (wip/tools/fork_print.py over the kit's print) out of Lean's print of the translation. Lean checks it.
import Derived.Test.YtbcokholddlpbaaPx0
import Derived.Test.YtbcokholddlpbaaPx2
namespace Go.Proofs.Ytbcokholddlpbaa.P
open Go.RowKit Go.Proofs.YtbcokholddlpbaaW.PrintWords Go.Proofs.YtbcokholddlpbaaW.PrintLast Go.Proofs.YtbcokholddlpbaaW.PrintMore
attribute [local go_sem] max2_int min2_int max_two min_two max_three min_three max_four min_four   -- for this text's walks alone
set_option linter.unusedVariables false
set_option linter.unusedSimpArgs false

/-! ### stack_pile_api_Step_pop: function 26 -/
-- NEEDS (*stylus/stack.pile[stylus/api.Step]).push
-- a pile's pop
theorem stack_take (W : World) (A : Option Addr) (n c m : Nat) (h : m ≤ n) (hc : n ≤ c) : (Instr.slice 22 (.slice A n c) none (some (.int .i64 (m : Int))) none).run Try.prog W = .ok (.slice A m c) W := by
  have hu := Try.underlying22
  have h2 : m ≤ c := Nat.le_trans h hc
  have hm : A.map (fun z : Addr => z.add 0) = A := by
    cases A with
    | none => rfl
    | some ad => cases ad with | mk b o f => cases f <;> rfl
  by_cases z : c = 0
  · subst z
    obtain rfl : m = 0 := by omega
    simp [Instr.slice, Instr.sliceBounds, Instr.sliceBound, asIntOf, hu]
  · simp [Instr.slice, Instr.sliceBounds, Instr.sliceBound, asIntOf, hu, h2, z, hm]
set_option maxHeartbeats 8000000 in
set_option maxRecDepth 100000 in
theorem stack_pile_api_Step_pop.none_ (g : Nat) (A : Option Addr) (c : Nat) (w : World) (hg : w.heap[g]? = some (.cells #[.slice A 0 c, .int .i64 16] 48 (0, 0))) :
    Calls Try.prog 26 #[.pointer (some ⟨g, 0, none⟩)] w fun e w' => e = .returned (.tuple #[.agg #[.slice none 0 0], .bool false]) ∧ w'.heap[g]? = some (.cells #[.slice A 0 c, .int .i64 16] 48 (0, 0)) ∧ Below w.heap.size w w' := by
  have huS := Try.underlying28
  have huP := Try.underlying48
  have KG := Aside0.mk hg
  have h0 := (blk_cell (blk_alloc (blk_alloc hg (.cells #[.slice none 0 0] 28)) (.cells #[.slice none 0 0] 28)) 0).trans rfl
  clear hg
  go_enter Try.func26, Try.ntmps26
  have z0 : ((w.alloc (.cells #[.slice none 0 0] 28)).alloc (.cells #[.slice none 0 0] 28)).heap[w.heap.size]? = some (.cells #[.slice none 0 0] 28 (0, 0)) := blk_alloc (heap_alloc_new _ _) _
  have z1 : ((w.alloc (.cells #[.slice none 0 0] 28)).alloc (.cells #[.slice none 0 0] 28)).heap[w.heap.size + 1]? = some (.cells #[.slice none 0 0] 28 (0, 0)) := by
    simpa using heap_alloc_new (w.alloc (.cells #[.slice none 0 0] 28)) (.cells #[.slice none 0 0] 28)
  have Z0 := Aside0.mk z0
  have s0 := (blk_cell z0 0).trans rfl
  have f0 := blk_frozen z0 0
  have s1 := (blk_cell z1 0).trans rfl
  clear z0 z1
  go_wp2_with fail
  refine bodyPost_ret (results_ct rfl _ _ w.heap.size 28 #[.slice none 0 0] (0, 0) _ rfl Z0.out Try.underlying28 rfl (by kernel_rfl)) rfl ?_
  exact ⟨rfl, blk_alloc (blk_alloc KG.out _) _, below_alloc (below_alloc (Below.refl _ _) _) _⟩
set_option maxHeartbeats 8000000 in
set_option maxRecDepth 100000 in
theorem stack_pile_api_Step_pop.some_ (g : Nat) (A : Option Addr) (c m : Nat) (l : List S28) (w0 w : World) (hb0 : Below w0.heap.size w0 w) (hg : w.heap[g]? = some (.cells #[.slice A (m + 1) c, .int .i64 16] 48 (0, 0)))
    (hC : Kd.C k28 w0 A (m + 1) l) (hc : m + 1 ≤ c) (hm : m ≤ 1000) :
    Calls Try.prog 26 #[.pointer (some ⟨g, 0, none⟩)] w fun e w' => (∃ At ct, e = .returned (.tuple #[.agg #[.slice At (rd_T28 l (m : Int)).f0.length ct], .bool true]) ∧ (rd_T28 l (m : Int)).f0.length ≤ ct ∧ Kd.C k38 w0 At (rd_T28 l (m : Int)).f0.length (rd_T28 l (m : Int)).f0) ∧
      w'.heap[g]? = some (.cells #[.slice A m c, .int .i64 16] 48 (0, 0)) ∧ Below g w w' := by
  have huS := Try.underlying28
  have huP := Try.underlying48
  obtain ⟨ad, At, ct, rfl, hx, hct, hCt⟩ := at_T28 hC (m : Int) (by omega) (by omega)
  rw [Int.toNat_natCast] at hx
  have hx := (hb0.cell (World.block_lt_of_cell? w0 _ hx)).trans hx
  have KG := Aside0.mk hg
  have HCT := Aside0.mk hct
  have HCt := Aside0.mk hCt
  have HX := Aside0.mk hx
  have hgl := blk_lt hg
  have HGL := Aside0.mk hgl
  have hw : wrap64 ((m : Int) + 1 - 1) = (m : Int) := by unfold wrap64; omega
  have hw2 : wrap64 (((m + 1 : Nat) : Int) - 1) = (m : Int) := by unfold wrap64; omega
  generalize (rd_T28 l (m : Int)).f0 = lt at *
  clear hct hCt hC
  have a1 := fun (o : Obj) (W : World) (h : W.heap[g]? = some (.cells #[.slice (some ad) (m + 1) c, .int .i64 16] 48 (0, 0))) => blk_alloc h o
  have k2 := blk_alloc (blk_alloc hg (.cells #[.slice none 0 0] 28)) (.cells #[.slice none 0 0] 28)
  have h0 := (blk_cell k2 0).trans rfl
  have hb2 := below_alloc (below_alloc (Below.refl w.heap.size w) (.cells #[.slice none 0 0] 28)) (.cells #[.slice none 0 0] 28)
  have x2 := (hb2.cell (World.block_lt_of_cell? w _ hx)).trans hx
  have c0 : decide ((m : Int) < 0) = false := decide_eq_false (by omega)
  have q0 : (0 ≤ (m : Int)) = True := eq_true (by omega)
  have q1 : ((m : Int) < (m : Int) + 1) = True := eq_true (by omega)
  have q2 : (m < m + 1) = True := eq_true (by omega)
  clear hg hx hb2 k2 a1
  go_enter Try.func26, Try.ntmps26
  go_upto_region 5 with fail
  go_cut [6] (fun v6 wx => v6 = .pointer (some ⟨w.heap.size + 1 + 1, 0, none⟩) ∧ Aside0 (wx.heap[w.heap.size]? = some (.cells #[.slice none 0 0] 28 (0, 0)) ∧ wx.heap[w.heap.size + 1 + 1]? = some (.cells #[.slice At lt.length ct] 28 (0, 0)) ∧ wx.heap[g]? = some (.cells #[.slice (some ad) (m + 1) c, .int .i64 16] 48 (0, 0)) ∧ Below w.heap.size w wx))
  case first =>
    go_wp2_with fail
    go_meet
    refine ⟨rfl, ⟨blk_alloc (blk_alloc (heap_alloc_new _ _) _) _, ?_, blk_alloc (blk_alloc (blk_alloc KG.out _) _) _, below_alloc (below_alloc (below_alloc (Below.refl _ _) _) _) _⟩⟩
    simpa using heap_alloc_new ((w.alloc (.cells #[.slice none 0 0] 28)).alloc (.cells #[.slice none 0 0] 28)) (.cells #[.slice At lt.length ct] 28)
  obtain ⟨rfl, hcut⟩ := hcut
  have K2 := Aside0.mk hcut.out.1
  have K6 := Aside0.mk hcut.out.2.1
  have KG2 := Aside0.mk hcut.out.2.2.1
  have KB := Aside0.mk hcut.out.2.2.2
  clear hcut h0 x2 KG
  have h0 := (blk_cell KG2.out 0).trans rfl
  have f0 := blk_frozen KG2.out 0
  have htk : ∀ W, (Instr.slice 22 (.slice (some ad) (m + 1) c) none (some (.int .i64 (m : Int))) none).run Try.prog W = .ok (.slice (some ad) m c) W := fun W => stack_take W (some ad) (m + 1) c m (by omega) hc
  have hne : g ≠ w.heap.size := Nat.ne_of_lt HGL.out
  have hne6 : w.heap.size + 1 + 1 ≠ g := by have := HGL.out; omega
  have hne62 : w.heap.size + 1 + 1 ≠ w.heap.size := by omega
  go_upto_region 7 with fail
  have K2' := Aside0.mk (blk_far K2.out (p := ⟨g, 0, none⟩) hne.symm (.slice (some ad) m c))
  have K6' := Aside0.mk (blk_far K6.out (p := ⟨g, 0, none⟩) hne6 (.slice (some ad) m c))
  have KG3 := Aside0.mk (blk_put (cs' := #[.slice (some ad) m c, .int .i64 16]) KG2.out 0 (.slice (some ad) m c) rfl)
  have HK := Aside0.mk (push_keep (g := g) KB.out HGL.out (.slice (some ad) m c))
  clear h0 f0 htk K2 K6 KG2
  generalize wc.setCell ⟨g, 0, none⟩ (.slice (some ad) m c) = w7 at K2' K6' KG3 HK ⊢
  have h6 := (blk_cell K6'.out 0).trans rfl
  have h2 := (blk_cell K2'.out 0).trans rfl
  have f2 := blk_frozen K2'.out 0
  go_wp2_with fail
  refine bodyPost_ret (results_ct rfl _ _ w.heap.size 28 #[.slice At lt.length ct] (0, 0) _ rfl (blk_put (cs' := #[.slice At lt.length ct]) K2'.out 0 (.slice At lt.length ct) rfl) Try.underlying28 rfl (by kernel_rfl)) rfl ?_
  exact ⟨⟨_, _, rfl, HCT.out, HCt.out⟩, blk_far KG3.out (p := ⟨w.heap.size, 0, none⟩) hne _, HK.out.setCell (p := ⟨w.heap.size, 0, none⟩) (Nat.le_of_lt HGL.out) _⟩
theorem stack_steps_own (A : Option Addr) (n c : Nat) (w : World) :
    Calls Try.prog 24 #[.slice A n c] w fun e w' => e = .returned (.pointer (some ⟨w.heap.size, 0, none⟩)) ∧ w' = w.alloc (.cells #[.slice A n c, .int .i64 16] 48 (0, 0)) := by
  have huP := Try.underlying48
  go_enter Try.func24, Try.ntmps24
  go_wp2_with fail
  go_ret
  exact ⟨rfl, rfl⟩

/-! ### stack_Push: function 12 -/
-- NEEDS (*stylus/stack.pile[stylus/api.Step]).push (*stylus/stack.pile[stylus/api.Step]).pop stylus/stack.steps
def stack_Push.f (l : List S28) (x : List S38) : Option (List S28) := if l.length ≤ 1000 then some (stack_top (l ++ [⟨x⟩])) else none
set_option maxHeartbeats 8000000 in
set_option maxRecDepth 100000 in
theorem stack_Push.own (A : Option Addr) (c : Nat) (l : List S28) (Ax : Option Addr) (cx : Nat) (lx : List S38) (w : World) (hC : Kd.C k28 w A l.length l) (hc : l.length ≤ c) (hX : Kd.C k38 w Ax lx.length lx) (hcx : lx.length ≤ cx) (hl : l.length ≤ 1000) :
    Calls Try.prog 12 #[.slice A l.length c, .agg #[.slice Ax lx.length cx]] w fun e w' => ∃ A' c', e = .returned (.slice A' (stack_top (l ++ [⟨lx⟩])).length c') ∧ (stack_top (l ++ [⟨lx⟩])).length ≤ c' ∧ Kd.C k28 w' A' (stack_top (l ++ [⟨lx⟩])).length (stack_top (l ++ [⟨lx⟩])) ∧ (l.length < 16 → Kd.N k28 28 w' w.heap.size (fun _ => True) (.slice A' (stack_top (l ++ [⟨lx⟩])).length c') (stack_top (l ++ [⟨lx⟩]))) ∧ Below w.heap.size w w' := by
  have huS := Try.underlying28
  have huP := Try.underlying48
  have HC := Aside0.mk hC
  have HX := Aside0.mk hX
  have Hc := Aside0.mk hc
  have Hcx := Aside0.mk hcx
  have HL := Aside0.mk hl
  have kx0 := blk_alloc (heap_alloc_new w (.cells #[.slice Ax lx.length cx] 28)) (.cells #[.slice A l.length c, .int .i64 16] 48)
  have hx0 := (blk_cell kx0 0).trans rfl
  have hg0 : ((w.alloc (.cells #[.slice Ax lx.length cx] 28)).alloc (.cells #[.slice A l.length c, .int .i64 16] 48)).heap[w.heap.size + 1]? = some (.cells #[.slice A l.length c, .int .i64 16] 48 (0, 0)) := by
    simpa using heap_alloc_new (w.alloc (.cells #[.slice Ax lx.length cx] 28)) (.cells #[.slice A l.length c, .int .i64 16] 48)
  have HG0 := Aside0.mk hg0
  have hb0 := below_alloc (below_alloc (Below.refl w.heap.size w) (.cells #[.slice Ax lx.length cx] 28)) (.cells #[.slice A l.length c, .int .i64 16] 48)
  have HB0 := Aside0.mk hb0
  clear hC hc hX hcx hl kx0 hg0 hb0
  go_enter Try.func12, Try.ntmps12
  go_wp2_with (first
    | (go_at_call 24; (with_reducible refine (stack_steps_own _ _ _ _).mono ?_); rintro e w2 ⟨rfl, rfl⟩)
    | (go_at_call 25; (refine (stack_pile_api_Step_push.own (w.heap.size + 1) A c l Ax cx lx w _ HB0.out (Nat.le_succ _) HG0.out HC.out Hc.out HX.out Hcx.out HL.out).mono ?_); rintro e w3 ⟨⟨v, rfl⟩, ⟨A', c', hg', hc', hC', hN'⟩, hk⟩; have HN' := Aside0.mk hN'; have hcell := (blk_cell hg' 0).trans rfl; have HC' := Aside0.mk hC'; have Hc' := Aside0.mk hc'; have HK := Aside0.mk hk; clear hC' hc' hk hg' hN'))
  go_ret
  exact ⟨_, _, rfl, Hc'.out, HC'.out, fun h_ => Kd.N_mono (Kd.N_lower (HN'.out h_) HB0.out.size) (fun _ _ => trivial), Below.trans HB0.out (HK.out.mono (Nat.le_succ _))⟩

/-! ### stack_Pop: function 16 -/
-- NEEDS stylus/stack.Push
theorem results_tct {P : Program} {fn : Func} {q p u : Tmp} {ty : TypeId} (h : fn.results = #[.tmp q, .cell p ty, .tmp u]) (tmps : Array Value) (w : World) (g : Nat) (t : TypeId) (cs : Array Value) (fr : Nat × Nat) (d : TypeDesc)
    (hp : tmps.getD p undef = .pointer (some ⟨g, 0, none⟩)) (hg : w.heap[g]? = some (.cells cs t fr))
    (hu : P.underlying ty = some d) (hd : (match d with | .struct _ | .array _ _ => true | _ => false) = true) (hi : (P.info? ty).map (·.size) = some cs.size) :
    (results fn tmps).run P w = .ok (.tuple #[tmps.getD q undef, .agg cs, tmps.getD u undef]) w := by
  have hp' : tmps[p]?.getD undef = .pointer (some ⟨g, 0, none⟩) := by simpa using hp
  simp [results, h, hp', asAddr, run_loadVar_row w g t ty cs fr d hg hu hd hi]
theorem pop_clone (A : Option Addr) (c : Nat) (front : List S28) (m : Nat) (hm : front.length = m) {w wd : World} (hF : Kd.F k28 w (fun k => k < w.heap.size) A m front) (hb : Below w.heap.size w wd) (hl : m ≤ 100000) :
    Calls Try.prog 27 #[.slice A m c] wd fun e w' => ∃ v0_ : Value, e = .returned v0_ ∧ Kd.N k28 28 w' wd.heap.size (fun k => k < w.heap.size ∨ wd.heap.size ≤ k) v0_ front ∧ Below wd.heap.size wd w' := by
  subst hm
  exact slices_Clone__api_Step_api_Step.own (fun k => k < w.heap.size) A c front wd (Kd.F_below hF hb) (fun k hk => Nat.lt_of_lt_of_le hk hb.size) hl
set_option maxHeartbeats 8000000 in
set_option maxRecDepth 100000 in
theorem stack_Pop.none_ (A : Option Addr) (c : Nat) (w : World) :
    Calls Try.prog 16 #[.slice A 0 c] w fun e w' => e = .returned (.tuple #[.slice none 0 0, .agg #[.slice none 0 0], .int .i64 10]) ∧ Below w.heap.size w w' := by
  have huS := Try.underlying28
  have huP := Try.underlying48
  have kg0 : ((w.alloc (.cells #[.slice none 0 0] 28)).alloc (.cells #[.slice A 0 c, .int .i64 16] 48)).heap[w.heap.size + 1]? = some (.cells #[.slice A 0 c, .int .i64 16] 48 (0, 0)) := by
    simpa using heap_alloc_new (w.alloc (.cells #[.slice none 0 0] 28)) (.cells #[.slice A 0 c, .int .i64 16] 48)
  have KG := Aside0.mk kg0
  have hb0 := below_alloc (below_alloc (Below.refl w.heap.size w) (.cells #[.slice none 0 0] 28)) (.cells #[.slice A 0 c, .int .i64 16] 48)
  have HB0 := Aside0.mk hb0
  have k3 := blk_alloc (heap_alloc_new w (.cells #[.slice none 0 0] 28)) (.cells #[.slice A 0 c, .int .i64 16] 48)
  have K3 := Aside0.mk k3
  clear kg0 hb0 k3
  go_enter Try.func16, Try.ntmps16
  go_wp2_with (first
    | (go_at_call 24; (with_reducible refine (stack_steps_own _ _ _ _).mono ?_); rintro e w2 ⟨rfl, rfl⟩)
    | (go_at_call 26; (refine (stack_pile_api_Step_pop.none_ (w.heap.size + 1) A c _ KG.out).mono ?_); rintro e w3 ⟨rfl, hg', hb⟩; have KB := Aside0.mk (below_step HB0.out hb); have k4 := blk_alloc (blk_below K3.out hb) (.cells #[.slice none 0 0] 28); have K4 := Aside0.mk k4; have h4 := (blk_cell k4 0).trans rfl; have f4 := blk_frozen k4 0; clear hb hg' k4))
  refine bodyPost_ret (results_tct rfl _ _ w.heap.size 28 #[.slice none 0 0] (0, 0) _ rfl (blk_put (cs' := #[.slice none 0 0]) K4.out 0 (.slice none 0 0) rfl) Try.underlying28 rfl (by kernel_rfl)) rfl ?_
  exact ⟨rfl, (below_alloc KB.out _).setCell (p := ⟨w.heap.size, 0, none⟩) (Nat.le_refl _) _⟩
set_option maxHeartbeats 8000000 in
set_option maxRecDepth 100000 in
theorem stack_Pop.some_ (A : Option Addr) (c m : Nat) (l : List S28) (w : World) (hC : Kd.C k28 w A (m + 1) l) (hc : m + 1 ≤ c) (hm : m ≤ 1000) :
    Calls Try.prog 16 #[.slice A (m + 1) c] w fun e w' => (∃ A' c' At ct, e = .returned (.tuple #[.slice A' m c', .agg #[.slice At (rd_T28 l (m : Int)).f0.length ct], .int .i64 0]) ∧ m ≤ c' ∧ Kd.C k28 w' A' m (l.take m) ∧
      (rd_T28 l (m : Int)).f0.length ≤ ct ∧ Kd.C k38 w At (rd_T28 l (m : Int)).f0.length (rd_T28 l (m : Int)).f0) ∧ Below w.heap.size w w' := by
  have huS := Try.underlying28
  have huP := Try.underlying48
  have hl : l.length = m + 1 := hC.1
  have htk : (l.take m).length = m := by rw [List.length_take]; omega
  have hC' : Kd.C k28 w A m (l.take m) := by
    have h1 : Kd.C k28 w A l.length l := by rw [hl]; exact hC
    have h2 := Kd.C_take h1 (show m ≤ l.length by omega)
    rwa [htk] at h2
  have HTK := Aside0.mk htk
  have HF := Aside0.mk (Kd.C_F heap_Step hC')
  have HC := Aside0.mk hC
  have Hc := Aside0.mk hc
  have HM := Aside0.mk hm
  have kg0 : ((w.alloc (.cells #[.slice none 0 0] 28)).alloc (.cells #[.slice A (m + 1) c, .int .i64 16] 48)).heap[w.heap.size + 1]? = some (.cells #[.slice A (m + 1) c, .int .i64 16] 48 (0, 0)) := by
    simpa using heap_alloc_new (w.alloc (.cells #[.slice none 0 0] 28)) (.cells #[.slice A (m + 1) c, .int .i64 16] 48)
  have KG0 := Aside0.mk kg0
  have hb0 := below_alloc (below_alloc (Below.refl w.heap.size w) (.cells #[.slice none 0 0] 28)) (.cells #[.slice A (m + 1) c, .int .i64 16] 48)
  have HB0 := Aside0.mk hb0
  have k3 := blk_alloc (heap_alloc_new w (.cells #[.slice none 0 0] 28)) (.cells #[.slice A (m + 1) c, .int .i64 16] 48)
  have K30 := Aside0.mk k3
  clear kg0 hb0 k3 hC hC' hc hm hl htk
  go_enter Try.func16, Try.ntmps16
  go_upto_region 2 with (go_at_call 24; (with_reducible refine (stack_steps_own _ _ _ _).mono ?_); rintro e w2 ⟨rfl, rfl⟩)
  go_cut [2, 4, 6, 7] (fun v2 v4 v6 v7 wx => v2 = .slice none 0 0 ∧ v4 = .int .i64 0 ∧ v7 = .bool true ∧ ∃ g6, v6 = .pointer (some ⟨g6, 0, none⟩) ∧ ∃ At ct, Aside0 (wx.heap[w.heap.size + 1]? = some (.cells #[.slice A m c, .int .i64 16] 48 (0, 0)) ∧ wx.heap[g6]? = some (.cells #[.slice At (rd_T28 l (m : Int)).f0.length ct] 28 (0, 0)) ∧ wx.heap[w.heap.size]? = some (.cells #[.slice none 0 0] 28 (0, 0)) ∧ Below w.heap.size w wx ∧ w.heap.size ≠ g6 ∧ w.heap.size + 1 ≠ g6 ∧
      (rd_T28 l (m : Int)).f0.length ≤ ct ∧ Kd.C k38 w At (rd_T28 l (m : Int)).f0.length (rd_T28 l (m : Int)).f0))
  case first =>
    go_wp2_with (go_at_call 26; (refine (stack_pile_api_Step_pop.some_ (w.heap.size + 1) A c m l w _ HB0.out KG0.out HC.out Hc.out HM.out).mono ?_); rintro e w3 ⟨⟨At, ct, rfl, hct, hCt⟩, hg', hb⟩; have KB := Aside0.mk (Below.trans HB0.out (hb.mono (Nat.le_succ _))); have K3 := Aside0.mk ((hb.block w.heap.size (Nat.lt_succ_self _)).trans K30.out); have HG' := Aside0.mk hg'; have HCt := Aside0.mk hCt; have Hct := Aside0.mk hct; clear hg' hct hCt hb)
    go_meet
    exact ⟨rfl, rfl, rfl, _, rfl, _, _, ⟨blk_alloc HG'.out _, heap_alloc_new _ _, blk_alloc K3.out _, below_alloc KB.out _, Nat.ne_of_lt (blk_lt K3.out), Nat.ne_of_lt (blk_lt HG'.out), Hct.out, HCt.out⟩⟩
  obtain ⟨rfl, rfl, rfl, g6, rfl, At, ct, hcut⟩ := hcut
  have KG := Aside0.mk hcut.out.1
  have K6 := Aside0.mk hcut.out.2.1
  have K3 := Aside0.mk hcut.out.2.2.1
  have KB := Aside0.mk hcut.out.2.2.2.1
  have HN0 := Aside0.mk hcut.out.2.2.2.2.1
  have HN1 := Aside0.mk hcut.out.2.2.2.2.2.1
  have Hct := Aside0.mk hcut.out.2.2.2.2.2.2.1
  have HCt := Aside0.mk hcut.out.2.2.2.2.2.2.2
  clear hcut KG0 HB0 K30
  generalize hlt : (rd_T28 l (m : Int)).f0 = lt at *
  have HLT := Aside0.mk hlt
  clear hlt
  go_upto_region 5 with fail
  refine start_ (n := 9) (S := fun w' => w'.cell? ⟨w.heap.size + 1, 0, none⟩ = some (.slice A m c) ∧ w'.cell? ⟨g6, 0, none⟩ = some (.slice At lt.length ct)) (ds := [7]) #[false, false, false, false, false, false, false, false, false] (by kernel_rfl) rfl rfl ⟨(blk_cell (blk_drew KG.out) 0).trans rfl, (blk_cell (blk_drew K6.out) 0).trans rfl⟩ (fun hHeld => ?_)
  refine pure_ (i := 0) (N := some 18) (v := ?_) (a' := ?_) #[true, false, false, false, false, false, false, false, false] rfl rfl (by kernel_rfl) (fun _ _ _ h => h) (Or.inl ⟨by rfl, ?_⟩) ?_ ?_
  rotate_left
  · intro w'
    go_simp
    with_reducible rfl
  rotate_left
  · simp only [Act.put, List.setIfInBounds_toArray, List.set_cons_zero, List.set_cons_succ, i64_w, i32_w]
    rfl
  refine pure_ (i := 1) (N := some 19) (v := ?_) (a' := ?_) #[true, true, false, false, false, false, false, false, false] rfl rfl (by kernel_rfl) (fun _ _ _ h => h) (Or.inl ⟨by rfl, ?_⟩) ?_ ?_
  rotate_left
  · intro w'
    go_simp
    with_reducible rfl
  rotate_left
  · simp only [Act.put, List.setIfInBounds_toArray, List.set_cons_zero, List.set_cons_succ, i64_w, i32_w]
    rfl
  refine pure_ (i := 2) (N := some 20) (v := ?_) (a' := ?_) #[true, true, true, false, false, false, false, false, false] rfl rfl (by kernel_rfl) (fun _ _ _ h => h) (Or.inl ⟨by rfl, ?_⟩) ?_ ?_
  rotate_left
  · intro w'
    go_simp
    with_reducible rfl
  rotate_left
  · simp only [Act.put, List.setIfInBounds_toArray, List.set_cons_zero, List.set_cons_succ, i64_w, i32_w]
    rfl
  refine take_ (i := 3) (N := some 21) (v := ?_) (a' := ?_) #[true, true, true, true, false, false, false, false, false] rfl rfl (by kernel_rfl) (fun _ _ _ h => h) (Or.inl ⟨by rfl, ?_⟩) hHeld ?_ ?_
  rotate_left
  · rintro w' ⟨s0, s1⟩
    go_simp
    with_reducible rfl
  rotate_left
  · simp only [Act.put, List.setIfInBounds_toArray, List.set_cons_zero, List.set_cons_succ, i64_w, i32_w]
    rfl
  refine take_ (i := 5) (N := some 23) (v := ?_) (a' := ?_) #[true, true, true, true, false, true, false, false, false] rfl rfl (by kernel_rfl) (fun _ _ _ h => h) (Or.inl ⟨by rfl, ?_⟩) hHeld ?_ ?_
  rotate_left
  · rintro w' ⟨s0, s1⟩
    go_simp
    with_reducible rfl
  rotate_left
  · simp only [Act.put, List.setIfInBounds_toArray, List.set_cons_zero, List.set_cons_succ, i64_w, i32_w]
    rfl
  refine one_ (i := 4) (N := some 22) #[true, true, true, true, true, true, false, false, false] rfl rfl (by kernel_rfl) (by decide) (fun K hK => ?_)
  refine goes_ Try.func27 (by kernel_rfl) rfl #[.slice A m c] (by rfl) rfl rfl (by (try simp only [List.map_toArray, List.map_cons, List.map_nil]); first | done | rfl) ?_
  have HWD := Aside0.mk (show w.heap.size < wc.drew.heap.size from blk_lt K3.out)
  have HTL := HTK.out
  with_reducible refine (pop_clone A c (l.take m) m HTL HF.out (below_drew KB.out) (by have := HM.out; omega)).mono ?_
  rintro e w5 ⟨v22, rfl, hN, hb⟩
  refine ⟨_, rfl, ?_⟩
  have KG := Aside0.mk (blk_below (blk_drew KG.out) hb)
  have K6 := Aside0.mk (blk_below (blk_drew K6.out) hb)
  have K3 := Aside0.mk (blk_below (blk_drew K3.out) hb)
  have KB := Aside0.mk (below_step (below_drew KB.out) hb)
  have HN := Aside0.mk hN
  clear hN hb
  refine hK.out _ _ ⟨(blk_cell (KG.out) 0).trans rfl, (blk_cell (K6.out) 0).trans rfl⟩ (fun hHeld => ?_)
  clear hK K
  refine norm_ (a' := ?_) ?_ ?_
  rotate_left
  · show Act.put _ (some 22) _ = _
    simp only [Act.put, List.setIfInBounds_toArray, List.set_cons_zero, List.set_cons_succ, i64_w, i32_w]
    rfl
  refine pure_ (i := 6) (N := some 2) (v := ?_) (a' := ?_) #[true, true, true, true, true, true, true, false, false] rfl rfl (by kernel_rfl) (fun _ _ _ h => h) (Or.inl ⟨by rfl, ?_⟩) ?_ ?_
  rotate_left
  · intro w'
    go_simp
    with_reducible rfl
  rotate_left
  · simp only [Act.put, List.setIfInBounds_toArray, List.set_cons_zero, List.set_cons_succ, i64_w, i32_w]
    rfl
  refine last_ (i := 7) (N := none) #[true, true, true, true, true, true, true, true, false] rfl rfl (by kernel_rfl) (by decide) (fun K hK => ?_)
  have hs_ := (blk_cell K3.out 0).trans rfl
  have hf_ := blk_frozen K3.out 0
  refine skip_ (w1 := ?_) (by rfl) rfl ?_ ?_
  rotate_left
  · go_simp
    rfl
  refine hK.out _ _ ?_
  clear hK K
  refine pure_ (i := 8) (N := some 4) (v := ?_) (a' := ?_) #[true, true, true, true, true, true, true, true, true] rfl rfl (by kernel_rfl) (fun _ _ _ h => h) (Or.inl ⟨by rfl, ?_⟩) ?_ ?_
  rotate_left
  · intro w'
    go_simp
    with_reducible rfl
  rotate_left
  · simp only [Act.put, List.setIfInBounds_toArray, List.set_cons_zero, List.set_cons_succ, i64_w, i32_w]
    rfl
  refine done_ (by kernel_rfl) ?_
  obtain ⟨A', c', rfl⟩ := Kd.N_slice HN.out
  have hlt := blk_lt K3.out
  have hN := Kd.N_far HN.out (p := ⟨w.heap.size, 0, none⟩) (fun k hk e => by
    have h1 := HWD.out
    rcases hk with h | h
    · rw [e] at h; exact Nat.lt_irrefl _ h
    · rw [e] at h; exact absurd (Nat.lt_of_le_of_lt h h1) (Nat.lt_irrefl _)) (.slice At lt.length ct)
  have hr := Kd.N_reads' hN
  have HR := Aside0.mk hr
  have KB9 := Aside0.mk (KB.out.setCell (p := ⟨w.heap.size, 0, none⟩) (Nat.le_refl _) (.slice At lt.length ct))
  have K9 := Aside0.mk (blk_put (cs' := #[.slice At lt.length ct]) K3.out 0 (.slice At lt.length ct) rfl)
  clear hr hN hlt hHeld hs_ hf_ HN
  generalize w5.setCell ⟨w.heap.size, 0, none⟩ (.slice At lt.length ct) = w9 at HR KB9 K9 ⊢
  go_wp2_with fail
  refine bodyPost_ret (results_tct rfl _ _ w.heap.size 28 #[.slice At lt.length ct] (0, 0) _ rfl K9.out Try.underlying28 rfl (by kernel_rfl)) rfl ?_
  have hh := HR.out
  rw [HTK.out] at hh
  rw [HLT.out]
  exact ⟨⟨A', c', At, ct, rfl, hh.2.1, hh.2.2, Hct.out, HCt.out⟩, KB9.out⟩

/-! ### edit_Inverse: function 30 -/
def edit_Inverse.f (a0_0 : Int) (a0_1 : ByteArray) (a0_2 : ByteArray) : Option (Int × ByteArray × ByteArray) := some (a0_0, a0_2, a0_1)
set_option maxHeartbeats 8000000 in
set_option maxRecDepth 100000 in
theorem edit_Inverse.calls (a0_0 : Int) (a0_1 : ByteArray) (a0_2 : ByteArray) (r1 : Int) (r2 : ByteArray) (r3 : ByteArray) (w : World) (h : edit_Inverse.f a0_0 a0_1 a0_2 = some (r1, r2, r3)) :
    Calls Try.prog 30 #[.agg #[.int .i64 a0_0, .string a0_1, .string a0_2]] w fun e w' => e = .returned (.agg #[.int .i64 r1, .string r2, .string r3]) ∧ Below w.heap.size w w' := by
  have hu38 := Try.underlying38
  have HB := Aside0.mk (Below.refl w.heap.size w)
  have H : (some (a0_0, a0_2, a0_1)) = some (r1, r2, r3) := h
  clear h
  simp only [Option.some.injEq, Prod.mk.injEq] at H
  obtain ⟨rfl, rfl, rfl⟩ := H
  go_enter Try.func30, Try.ntmps30
  go_wp2_with (first | ((with_reducible refine gate_dst (N := 1) rfl ?_); refine box_event ?hg (N := 1) ?hd (cs := #[.int .i64 a0_0, .string a0_1, .string a0_2]) (t := 38) ?hr ?_; (case hd => rfl); (case hg => rfl); (case hr => first | (go_simp; done) | (go_simp; rfl)); intro gb108 hg w2 hbox hb; have n0_ := Aside0.mk (below_step (by repeat (first | (with_reducible first | exact HB.out | apply below_alloc | apply pw_below_drewN | apply below_drew1) | exact HB.out)) hb); have n1_ := Aside0.mk (hbox); have n2_ := Aside0.mk ((by rw [hg]; exact (below_size (by repeat (first | (with_reducible first | exact HB.out | apply below_alloc | apply pw_below_drewN | apply below_drew1) | exact HB.out))) : w.heap.size ≤ gb108)); have n3_ := Aside0.mk ((by rw [hg]; exact (below_size (by repeat (first | (with_reducible first | exact HB.out | apply below_alloc | apply pw_below_drewN | apply below_drew1) | exact HB.out))) : w.heap.size ≤ gb108)); clear HB; have HB := n0_; have BK108 := n1_; have GW108 := n2_; have GE108 := n3_; clear n0_ n1_ n2_ n3_; clear hb hbox hg) | ((with_reducible refine gate_dst (N := 2) rfl ?_); refine box_event ?hg (N := 2) ?hd (cs := #[.int .i64 0, .string (⟨#[]⟩ : ByteArray), .string (⟨#[]⟩ : ByteArray)]) (t := 38) ?hr ?_; (case hd => rfl); (case hg => rfl); (case hr => first | (go_simp; done) | (go_simp; rfl)); intro gb109 hg w3 hbox hb; have n0_ := Aside0.mk (blk_below (g := gb108) (o := .cells #[.int .i64 a0_0, .string a0_1, .string a0_2] 38 (0, 0)) (by (with_reducible repeat (first | refine blk_drewN ?_ _ | refine blk_drew ?_ | refine blk_alloc ?_ _)); exact BK108.out) hb); have n1_ := Aside0.mk (below_step (by repeat (first | (with_reducible first | exact HB.out | apply below_alloc | apply pw_below_drewN | apply below_drew1 | refine below_set ?_ GE108.out) | exact HB.out)) hb); have n2_ := Aside0.mk (hbox); have n3_ := Aside0.mk ((by rw [hg]; exact (below_size (by repeat (first | (with_reducible first | exact HB.out | apply below_alloc | apply pw_below_drewN | apply below_drew1 | refine below_set ?_ GE108.out) | exact HB.out))) : w.heap.size ≤ gb109)); have n4_ := Aside0.mk ((by rw [hg]; exact (below_size (by repeat (first | (with_reducible first | exact HB.out | apply below_alloc | apply pw_below_drewN | apply below_drew1 | refine below_set ?_ GE108.out) | exact HB.out))) : w.heap.size ≤ gb109)); have n5_ := Aside0.mk ((by rw [hg]; exact Nat.ne_of_lt (blk_lt (g := gb108) (o := .cells #[.int .i64 a0_0, .string a0_1, .string a0_2] 38 (0, 0)) (by (with_reducible repeat (first | refine blk_drewN ?_ _ | refine blk_drew ?_ | refine blk_alloc ?_ _)); exact BK108.out)) : gb108 ≠ gb109)); have n6_ := Aside0.mk ((by rw [hg]; exact Nat.ne_of_gt (blk_lt (g := gb108) (o := .cells #[.int .i64 a0_0, .string a0_1, .string a0_2] 38 (0, 0)) (by (with_reducible repeat (first | refine blk_drewN ?_ _ | refine blk_drew ?_ | refine blk_alloc ?_ _)); exact BK108.out)) : gb109 ≠ gb108)); clear BK108; clear HB; have BK108 := n0_; have HB := n1_; have BK109 := n2_; have GW109 := n3_; have GE109 := n4_; have NB108_109 := n5_; have NB109_108 := n6_; clear n0_ n1_ n2_ n3_ n4_ n5_ n6_; clear hb hbox hg; have hnb4 := NB108_109.out; have hnc4 := NB109_108.out; have hcz5_0 : w3.cell? ⟨gb108, 0, none⟩ = some (.int .i64 a0_0) := (blk_cell BK108.out 0).trans rfl; have hcz5_1 : w3.cell? ⟨gb108, 1, none⟩ = some (.string a0_1) := (blk_cell BK108.out 1).trans rfl; have hcz5_2 : w3.cell? ⟨gb108, 2, none⟩ = some (.string a0_2) := (blk_cell BK108.out 2).trans rfl; have hfz5_0 := blk_frozen BK108.out 0; have hfz5_1 := blk_frozen BK108.out 1; have hfz5_2 := blk_frozen BK108.out 2; have hcz6_0 : w3.cell? ⟨gb109, 0, none⟩ = some (.int .i64 0) := (blk_cell BK109.out 0).trans rfl; have hcz6_1 : w3.cell? ⟨gb109, 1, none⟩ = some (.string (⟨#[]⟩ : ByteArray)) := (blk_cell BK109.out 1).trans rfl; have hcz6_2 : w3.cell? ⟨gb109, 2, none⟩ = some (.string (⟨#[]⟩ : ByteArray)) := (blk_cell BK109.out 2).trans rfl; have hfz6_0 := blk_frozen BK109.out 0; have hfz6_1 := blk_frozen BK109.out 1; have hfz6_2 := blk_frozen BK109.out 2))
  refine bodyPost_ret (results_cell_row rfl _ _ gb109 38 #[.int .i64 a0_0, .string a0_2, .string a0_1] (0, 0) _ rfl (by (with_reducible repeat (first | refine blk_drewN ?_ _ | refine blk_drew ?_ | refine blk_alloc ?_ _)); refine blk_put (cs := #[.int .i64 a0_0, .string a0_2, .string (⟨#[]⟩ : ByteArray)]) ?_ 2 _ rfl; (with_reducible repeat (first | refine blk_drewN ?_ _ | refine blk_drew ?_ | refine blk_alloc ?_ _)); refine blk_put (cs := #[.int .i64 a0_0, .string (⟨#[]⟩ : ByteArray), .string (⟨#[]⟩ : ByteArray)]) ?_ 1 _ rfl; (with_reducible repeat (first | refine blk_drewN ?_ _ | refine blk_drew ?_ | refine blk_alloc ?_ _)); refine blk_put (cs := #[.int .i64 0, .string (⟨#[]⟩ : ByteArray), .string (⟨#[]⟩ : ByteArray)]) ?_ 0 _ rfl; (with_reducible repeat (first | refine blk_drewN ?_ _ | refine blk_drew ?_ | refine blk_alloc ?_ _)); refine blk_far ?_ NB109_108.out _; (with_reducible repeat (first | refine blk_drewN ?_ _ | refine blk_drew ?_ | refine blk_alloc ?_ _)); refine blk_far ?_ NB109_108.out _; (with_reducible repeat (first | refine blk_drewN ?_ _ | refine blk_drew ?_ | refine blk_alloc ?_ _)); exact BK109.out) Try.underlying38 rfl (by kernel_rfl)) rfl ?_
  exact ⟨by first | rfl | (simp [errW_none, errW_some] <;> rfl) | (simp [*, errW_none, errW_some] <;> rfl), by repeat (first | (with_reducible first | exact HB.out | apply below_alloc | apply pw_below_drewN | apply below_drew1 | refine below_set ?_ GE108.out | refine below_set ?_ GE109.out) | exact HB.out)⟩

/-! ### step_Inverse: function 19 -/
def step_Inverse.l0 : Nat → Int → Int → Int → List (S38) → List (S38) → Option ((List (S38)))
  | 0, _, _, _, _, _ => none
  | k + 1, x3, x9, x10, x111000, x113000 => if x10 < x9 then (if 0 ≤ (wrap64 ((wrap64 (x3 - 1)) - x10)) then (if (wrap64 ((wrap64 (x3 - 1)) - x10)) < (x111000.length : Int) then ((edit_Inverse.f ((rd_T38 x111000 (wrap64 ((wrap64 (x3 - 1)) - x10))).f0) ((rd_T38 x111000 (wrap64 ((wrap64 (x3 - 1)) - x10))).f1) ((rd_T38 x111000 (wrap64 ((wrap64 (x3 - 1)) - x10))).f2)).bind fun bt114 => (if x113000.length < 3518437208883 then (step_Inverse.l0 k x3 x9 (wrap64 (x10 + 1)) x111000 (x113000 ++ [(⟨bt114.1, bt114.2.1, bt114.2.2⟩ : S38)])) else (none))) else (none)) else (none)) else (some x113000)
def step_Inverse.f (k : Nat) (l0_0 : List (S38)) : Option ((List (S38))) := step_Inverse.l0 k (l0_0.length : Int) (l0_0.length : Int) 0 l0_0 ([] : List (S38))
theorem step_Inverse.mono_l : ∀ k, (∀ y0 y1 y2 y3 y4, LeO (step_Inverse.l0 k y0 y1 y2 y3 y4) (step_Inverse.l0 (k + 1) y0 y1 y2 y3 y4))
  | 0 => fun _ _ _ _ _ r h => by simp [step_Inverse.l0] at h
  | k + 1 => by
    have ih0 := step_Inverse.mono_l k
    · intro y0 y1 y2 y3 y4
      unfold step_Inverse.l0
      repeat' first
      | (with_reducible exact ih0 _ _ _ _ _)
      | (with_reducible exact LeO.refl _)
      | (with_reducible exact LeO.none _)
      | (with_reducible refine LeO.ite ?_ ?_)
      | (with_reducible refine LeO.bind ?_ (fun _ => ?_))
      | exact ih0 _ _ _ _ _
      | exact LeO.none _
      | refine LeO.ite ?_ ?_
      | refine LeO.bind ?_ (fun _ => ?_)
theorem step_Inverse.mono : ∀ a0 k, LeO (step_Inverse.f k a0) (step_Inverse.f (k + 1) a0) := by
  intro a0 k
  have ih0 := step_Inverse.mono_l k
  unfold step_Inverse.f
  repeat' first
      | (with_reducible exact ih0 _ _ _ _ _)
      | (with_reducible exact LeO.refl _)
      | (with_reducible exact LeO.none _)
      | (with_reducible refine LeO.ite ?_ ?_)
      | (with_reducible refine LeO.bind ?_ (fun _ => ?_))
      | exact ih0 _ _ _ _ _
      | exact LeO.none _
      | refine LeO.ite ?_ ?_
      | refine LeO.bind ?_ (fun _ => ?_)
def step_Inverse.T6 : Bool × List (List Nat × List Nat) := (true, [([], []), ([0], [0]), ([], []), ([2], [2]), ([], []), ([4], [4]), ([], []), ([5, 6], [5, 6]), ([3, 7], [3, 7]), ([8], [8]), ([9], [9]), ([10], [10]), ([1, 11, 10], [1, 11]), ([0, 1, 2, 3, 4, 5, 6, 7, 8, 9, 10, 11, 12], []), ([13, 12, 12, 0, 1, 2, 3, 4, 5, 6, 7, 8, 9, 10, 11, 12], [12, 13])])
def step_Inverse.B6 : List Nat := [0, 1, 0, 4, 0, 16, 0, 112, 252, 508, 1020, 2044, 4095, 8191, 16383]
theorem step_Inverse.tab6 : rtab .any (opsOf Try.f19 6) = step_Inverse.T6 := by kernel_rfl
theorem step_Inverse.bits6 : waitsOk step_Inverse.T6.2 step_Inverse.B6 = true := by kernel_rfl
set_option maxHeartbeats 8000000 in
set_option maxRecDepth 100000 in
theorem step_Inverse.calls (k : Nat) (A0_0 : Option Addr) (c0_0 : Nat) (l0_0 : List (S38)) (r : List (S38)) (w : World) (hr0_0 : Kd.C k38 w A0_0 l0_0.length l0_0) (hc0_0 : l0_0.length ≤ c0_0) (h : step_Inverse.f k l0_0 = some r) :
    Calls Try.prog 19 #[.agg #[.slice A0_0 l0_0.length c0_0]] w fun e w' => ∃ v0_ : Value, e = .returned (.agg #[v0_]) ∧ Kd.R k38 38 w' w.heap.size (fun _ => True) v0_ r ∧ Below w.heap.size w w' := by
  have hu28 := Try.underlying28
  have hu38 := Try.underlying38
  have HR0_0 := Aside0.mk hr0_0
  have HC0_0 := Aside0.mk hc0_0
  clear hr0_0 hc0_0
  have HB := Aside0.mk (Below.refl w.heap.size w)
  have H : (step_Inverse.l0 k (l0_0.length : Int) (l0_0.length : Int) 0 l0_0 ([] : List (S38))) = some r := h
  clear h
  have H' := Aside0.mk H
  clear H
  go_enter Try.func19, Try.ntmps19
  go_wp2_with (first | ((with_reducible refine gate_dst (N := 1) rfl ?_); refine box_event ?hg (N := 1) ?hd (cs := #[.slice A0_0 l0_0.length c0_0]) (t := 28) ?hr ?_; (case hd => rfl); (case hg => rfl); (case hr => first | (go_simp; done) | (go_simp; rfl)); intro gb110 hg w2 hbox hb; have n0_ := Aside0.mk (below_step (by repeat (first | (with_reducible first | exact HB.out | apply below_alloc | apply pw_below_drewN | apply below_drew1) | exact HB.out)) hb); have n1_ := Aside0.mk (hbox); have n2_ := Aside0.mk ((by rw [hg]; exact (below_size (by repeat (first | (with_reducible first | exact HB.out | apply below_alloc | apply pw_below_drewN | apply below_drew1) | exact HB.out))) : w.heap.size ≤ gb110)); have n3_ := Aside0.mk ((by rw [hg]; exact (below_size (by repeat (first | (with_reducible first | exact HB.out | apply below_alloc | apply pw_below_drewN | apply below_drew1) | exact HB.out))) : w.heap.size ≤ gb110)); clear HB; have HB := n0_; have BK110 := n1_; have GW110 := n2_; have GE110 := n3_; clear n0_ n1_ n2_ n3_; clear hb hbox hg) | ((with_reducible refine gate_dst (N := 2) rfl ?_); refine box_event ?hg (N := 2) ?hd (cs := #[.slice none 0 0]) (t := 28) ?hr ?_; (case hd => rfl); (case hg => rfl); (case hr => first | (go_simp; done) | (go_simp; rfl)); intro gb111 hg w3 hbox hb; have n0_ := Aside0.mk (blk_below (g := gb110) (o := .cells #[.slice A0_0 l0_0.length c0_0] 28 (0, 0)) (by (with_reducible repeat (first | refine blk_drewN ?_ _ | refine blk_drew ?_ | refine blk_alloc ?_ _)); exact BK110.out) hb); have n1_ := Aside0.mk (below_step (by repeat (first | (with_reducible first | exact HB.out | apply below_alloc | apply pw_below_drewN | apply below_drew1 | refine below_set ?_ GE110.out) | exact HB.out)) hb); have n2_ := Aside0.mk (hbox); have n3_ := Aside0.mk ((by rw [hg]; exact (below_size (by repeat (first | (with_reducible first | exact HB.out | apply below_alloc | apply pw_below_drewN | apply below_drew1 | refine below_set ?_ GE110.out) | exact HB.out))) : w.heap.size ≤ gb111)); have n4_ := Aside0.mk ((by rw [hg]; exact (below_size (by repeat (first | (with_reducible first | exact HB.out | apply below_alloc | apply pw_below_drewN | apply below_drew1 | refine below_set ?_ GE110.out) | exact HB.out))) : w.heap.size ≤ gb111)); have n5_ := Aside0.mk ((by rw [hg]; exact Nat.ne_of_lt (blk_lt (g := gb110) (o := .cells #[.slice A0_0 l0_0.length c0_0] 28 (0, 0)) (by (with_reducible repeat (first | refine blk_drewN ?_ _ | refine blk_drew ?_ | refine blk_alloc ?_ _)); exact BK110.out)) : gb110 ≠ gb111)); have n6_ := Aside0.mk ((by rw [hg]; exact Nat.ne_of_gt (blk_lt (g := gb110) (o := .cells #[.slice A0_0 l0_0.length c0_0] 28 (0, 0)) (by (with_reducible repeat (first | refine blk_drewN ?_ _ | refine blk_drew ?_ | refine blk_alloc ?_ _)); exact BK110.out)) : gb111 ≠ gb110)); clear BK110; clear HB; have BK110 := n0_; have HB := n1_; have BK111 := n2_; have GW111 := n3_; have GE111 := n4_; have NB110_111 := n5_; have NB111_110 := n6_; clear n0_ n1_ n2_ n3_ n4_ n5_ n6_; clear hb hbox hg; have hnb4 := NB110_111.out; have hnc4 := NB111_110.out; have hcz5_0 : w3.cell? ⟨gb110, 0, none⟩ = some (.slice A0_0 l0_0.length c0_0) := (blk_cell BK110.out 0).trans rfl; have hfz5_0 := blk_frozen BK110.out 0) | ((with_reducible refine gate_dst (N := 4) rfl ?_); refine box_event ?hg (N := 4) ?hd (cs := #[.slice none 0 0]) (t := 28) ?hr ?_; (case hd => rfl); (case hg => rfl); (case hr => first | (go_simp; done) | (go_simp; rfl)); intro gb112 hg w6 hbox hb; have n0_ := Aside0.mk (blk_below (g := gb110) (o := .cells #[.slice A0_0 l0_0.length c0_0] 28 (0, 0)) (by (with_reducible repeat (first | refine blk_drewN ?_ _ | refine blk_drew ?_ | refine blk_alloc ?_ _)); exact BK110.out) hb); have n1_ := Aside0.mk (blk_below (g := gb111) (o := .cells #[.slice none 0 0] 28 (0, 0)) (by (with_reducible repeat (first | refine blk_drewN ?_ _ | refine blk_drew ?_ | refine blk_alloc ?_ _)); exact BK111.out) hb); have n2_ := Aside0.mk (below_step (by repeat (first | (with_reducible first | exact HB.out | apply below_alloc | apply pw_below_drewN | apply below_drew1 | refine below_set ?_ GE110.out | refine below_set ?_ GE111.out) | exact HB.out)) hb); have n3_ := Aside0.mk (hbox); have n4_ := Aside0.mk ((by rw [hg]; exact (below_size (by repeat (first | (with_reducible first | exact HB.out | apply below_alloc | apply pw_below_drewN | apply below_drew1 | refine below_set ?_ GE110.out | refine below_set ?_ GE111.out) | exact HB.out))) : w.heap.size ≤ gb112)); have n5_ := Aside0.mk ((by rw [hg]; exact (below_size (by repeat (first | (with_reducible first | exact HB.out | apply below_alloc | apply pw_below_drewN | apply below_drew1 | refine below_set ?_ GE110.out | refine below_set ?_ GE111.out) | exact HB.out))) : w.heap.size ≤ gb112)); have n6_ := Aside0.mk ((by rw [hg]; exact Nat.ne_of_lt (blk_lt (g := gb110) (o := .cells #[.slice A0_0 l0_0.length c0_0] 28 (0, 0)) (by (with_reducible repeat (first | refine blk_drewN ?_ _ | refine blk_drew ?_ | refine blk_alloc ?_ _)); exact BK110.out)) : gb110 ≠ gb112)); have n7_ := Aside0.mk ((by rw [hg]; exact Nat.ne_of_gt (blk_lt (g := gb110) (o := .cells #[.slice A0_0 l0_0.length c0_0] 28 (0, 0)) (by (with_reducible repeat (first | refine blk_drewN ?_ _ | refine blk_drew ?_ | refine blk_alloc ?_ _)); exact BK110.out)) : gb112 ≠ gb110)); have n8_ := Aside0.mk ((by rw [hg]; exact Nat.ne_of_lt (blk_lt (g := gb111) (o := .cells #[.slice none 0 0] 28 (0, 0)) (by (with_reducible repeat (first | refine blk_drewN ?_ _ | refine blk_drew ?_ | refine blk_alloc ?_ _)); exact BK111.out)) : gb111 ≠ gb112)); have n9_ := Aside0.mk ((by rw [hg]; exact Nat.ne_of_gt (blk_lt (g := gb111) (o := .cells #[.slice none 0 0] 28 (0, 0)) (by (with_reducible repeat (first | refine blk_drewN ?_ _ | refine blk_drew ?_ | refine blk_alloc ?_ _)); exact BK111.out)) : gb112 ≠ gb111)); clear BK110; clear BK111; clear HB; have BK110 := n0_; have BK111 := n1_; have HB := n2_; have BK112 := n3_; have GW112 := n4_; have GE112 := n5_; have NB110_112 := n6_; have NB112_110 := n7_; have NB111_112 := n8_; have NB112_111 := n9_; clear n0_ n1_ n2_ n3_ n4_ n5_ n6_ n7_ n8_ n9_; clear hb hbox hg))
  go_loopg [10] k (fun kq v10 w' => ∃ (x10_1 : Int) (x113000_1 : List (S38)) (u113000 : Value), v10 = .int .i64 x10_1 ∧ Aside0 (step_Inverse.l0 kq (l0_0.length : Int) (l0_0.length : Int) x10_1 l0_0 x113000_1 = some r) ∧ Aside0 (kq ≤ k) ∧ Aside0 (Kd.R k38 38 w' w.heap.size (fun _ => True) u113000 x113000_1) ∧ Aside0 (w'.heap[gb110]? = some (.cells #[(.slice A0_0 l0_0.length c0_0)] 28 (0, 0))) ∧ Aside0 (w'.heap[gb111]? = some (.cells #[(.slice none 0 0)] 28 (0, 0))) ∧ Aside0 (w'.heap[gb112]? = some (.cells #[u113000] 28 (0, 0))) ∧ Aside0 (Below w.heap.size w w'))
  case atStart => exact ⟨(0), (([] : List (S38))), (.slice none 0 0), (by first | rfl | (simp; done) | (simp [*]; done)), H', ⟨Nat.le_refl _⟩, ⟨by first | exact Kd.R_nil _ _ _ _ _ | exact Kd.N_nil _ _ _ _ _ | exact Kd.V_nil _ _ _ _ _ | exact Kd.Q_nil _ _ _ _ _ | exact Kd.S_nil _ _ _ _ _⟩, ⟨by (with_reducible repeat (first | refine blk_drewN ?_ _ | refine blk_drew ?_ | refine blk_alloc ?_ _)); exact BK110.out⟩, ⟨by (with_reducible repeat (first | refine blk_drewN ?_ _ | refine blk_drew ?_ | refine blk_alloc ?_ _)); exact BK111.out⟩, ⟨by (with_reducible repeat (first | refine blk_drewN ?_ _ | refine blk_drew ?_ | refine blk_alloc ?_ _)); exact BK112.out⟩, ⟨by repeat (first | (with_reducible first | exact HB.out | apply below_alloc | apply pw_below_drewN | apply below_drew1 | refine below_set ?_ GE110.out | refine below_set ?_ GE111.out | refine below_set ?_ GE112.out) | exact HB.out)⟩⟩
  case round =>
    clear H'
    try clear c1
    try clear p2
    try clear c4
    try clear hcz5_0
    try clear hfz5_0
    obtain ⟨x10_1, x113000_1, u113000, rfl, HA, HK1, HO_113000, BK110, BK111, BK112, HB⟩ := hrel
    cases gk with
    | zero => exact absurd HA.out (by simp [step_Inverse.l0])
    | succ k1 =>
      have H := HA.out
      clear HA
      simp only [step_Inverse.l0] at H
      by_cases c7 : x10_1 < (l0_0.length : Int)
      · rw [if_pos c7] at H
        have c7b0 : decide (x10_1 < (l0_0.length : Int)) = true := decide_eq_true c7
        clear c7
        obtain ⟨ji8, hji8⟩ : ∃ j_ : Int, (wrap64 ((wrap64 ((l0_0.length : Int) - 1)) - x10_1)) = j_ := ⟨_, rfl⟩
        replace H : (if 0 ≤ (ji8) then (if (ji8) < (l0_0.length : Int) then ((edit_Inverse.f ((rd_T38 l0_0 (ji8)).f0) ((rd_T38 l0_0 (ji8)).f1) ((rd_T38 l0_0 (ji8)).f2)).bind fun bt114 => (if x113000_1.length < 3518437208883 then (step_Inverse.l0 k1 (l0_0.length : Int) (l0_0.length : Int) (wrap64 (x10_1 + 1)) l0_0 (x113000_1 ++ [(⟨bt114.1, bt114.2.1, bt114.2.2⟩ : S38)])) else (none))) else (none)) else (none)) = some r := by first | (rw [hji8] at H; exact H) | (simp only [hji8] at H ⊢; exact H)
        have hji8w : (IntKind.i64.wrap ((wrap64 ((l0_0.length : Int) - 1)) - x10_1)) = ji8 := (i64_w _).trans hji8
        by_cases c9 : 0 ≤ (ji8)
        · rw [if_pos c9] at H
          have c9b0 : decide (0 ≤ (ji8)) = true := decide_eq_true c9
          clear c9
          by_cases c10 : (ji8) < (l0_0.length : Int)
          · rw [if_pos c10] at H
            have c10b0 : decide ((ji8) < (l0_0.length : Int)) = true := decide_eq_true c10
            clear c10
            replace H := Option.bind_eq_some_iff.mp H
            obtain ⟨⟨t114, t115, t116⟩, A110, H⟩ := H
            replace H : (if x113000_1.length < 3518437208883 then (step_Inverse.l0 k1 (l0_0.length : Int) (l0_0.length : Int) (wrap64 (x10_1 + 1)) l0_0 (x113000_1 ++ [(⟨t114, t115, t116⟩ : S38)])) else (none)) = some r := H
            have A11 := Aside0.mk A110
            clear A110
            by_cases c12 : x113000_1.length < 3518437208883
            · rw [if_pos c12] at H
              have LMc12 := Aside0.mk c12
              clear c12
              obtain ⟨y117, hy117⟩ : ∃ y_ : List (S38), y_ = (x113000_1 ++ [(⟨t114, t115, t116⟩ : S38)]) := ⟨_, rfl⟩
              replace H : (step_Inverse.l0 k1 (l0_0.length : Int) (l0_0.length : Int) (wrap64 (x10_1 + 1)) l0_0 y117) = some r := by first | (rw [hy117]; with_reducible exact H) | (have H2_ := (Option.bind_some _ _).symm.trans H; rw [hy117]; with_reducible exact H2_) | (have H2_ := (Option.bind_some _ _).symm.trans H; with_reducible exact H2_) | with_reducible exact H | (rw [hy117]; exact H) | exact H
              have Ny117 := Aside0.mk hy117
              clear hy117
              have H' := Aside0.mk H
              clear H
              try go_wp2
              have n0_ := Aside0.mk (Kd.R_drew HO_113000.out)
              have n1_ := Aside0.mk (blk_drew BK110.out)
              have n2_ := Aside0.mk (blk_drew BK111.out)
              have n3_ := Aside0.mk (blk_drew BK112.out)
              have n4_ := Aside0.mk (below_drew1 HB.out)
              clear HO_113000
              clear BK110
              clear BK111
              clear BK112
              clear HB
              have HO_113000 := n0_
              have BK110 := n1_
              have BK111 := n2_
              have BK112 := n3_
              have HB := n4_
              clear n0_ n1_ n2_ n3_ n4_
              have p113 : 0 ≤ ((ji8) : Int) := of_decide_eq_true (by first | (with_reducible assumption) | assumption)
              have q113 : (ji8) < (l0_0.length : Int) := of_decide_eq_true (by first | (with_reducible assumption) | assumption)
              obtain ⟨ad113, e113, hx113_0, hx113_1, hx113_2⟩ := at_T38 HR0_0.out (ji8) p113 q113
              have hw113_2 := hx113_2
              have hw113_1 := hx113_1
              have hw113_0 := hx113_0
              cases e113
              replace hx113_0 := (HB.out.cell (World.block_lt_of_cell? w _ hx113_0)).trans hx113_0
              replace hx113_1 := (HB.out.cell (World.block_lt_of_cell? w _ hx113_1)).trans hx113_1
              replace hx113_2 := (HB.out.cell (World.block_lt_of_cell? w _ hx113_2)).trans hx113_2
              replace p113 := eq_true p113
              replace q113 := eq_true q113
              refine start_ (n := 15) (S := fun w' => w'.cell? ⟨gb112, 0, none⟩ = some (u113000) ∧ w'.cell? ⟨gb110, 0, none⟩ = some (.slice (some ad113) l0_0.length c0_0) ∧ w'.cell? (ad113.add (((ji8)).toNat * 3)) = some (.int .i64 ((rd_T38 l0_0 (ji8)).f0)) ∧ w'.cell? ⟨(ad113.add (((ji8)).toNat * 3)).block, (ad113.add (((ji8)).toNat * 3)).off + 1, none⟩ = some (.string ((rd_T38 l0_0 (ji8)).f1)) ∧ w'.cell? ⟨(ad113.add (((ji8)).toNat * 3)).block, (ad113.add (((ji8)).toNat * 3)).off + 2, none⟩ = some (.string ((rd_T38 l0_0 (ji8)).f2))) (ds := [14]) #[false, false, false, false, false, false, false, false, false, false, false, false, false, false, false] (by kernel_rfl) rfl rfl ⟨(blk_cell BK112.out 0).trans rfl, (blk_cell BK110.out 0).trans rfl, ((HB.out.cell (World.block_lt_of_cell? w _ hw113_0)).trans hw113_0), ((HB.out.cell (World.block_lt_of_cell? w _ hw113_1)).trans hw113_1), ((HB.out.cell (World.block_lt_of_cell? w _ hw113_2)).trans hw113_2)⟩ (fun hHeld => ?_); refine with_tabW step_Inverse.tab6 step_Inverse.bits6 (fun HT_ HW_ => ?_)
              generalize wr.drew = w13 at HO_113000 BK110 BK111 BK112 HB hx113_0 hx113_1 hx113_2 hHeld ⊢
              refine pure_ (i := 0) (N := some 13) (v := ?_) (a' := ?_) #[true, false, false, false, false, false, false, false, false, false, false, false, false, false, false] rfl rfl (any_of HT_.out (by kernel_rfl)) (fun _ _ _ h => h) (Or.inl ⟨by rfl, ?_⟩) ?_ ?_
              rotate_left
              · intro w'
                go_simp
                with_reducible rfl
              rotate_left
              · simp only [Act.put, List.setIfInBounds_toArray, List.set_cons_zero, List.set_cons_succ, i64_w, i32_w]
                rfl
              refine pure_ (i := 2) (N := some 15) (v := ?_) (a' := ?_) #[true, false, true, false, false, false, false, false, false, false, false, false, false, false, false] rfl rfl (any_of HT_.out (by kernel_rfl)) (fun _ _ _ h => h) (Or.inl ⟨by rfl, ?_⟩) ?_ ?_
              rotate_left
              · intro w'
                go_simp
                with_reducible rfl
              rotate_left
              · simp only [Act.put, List.setIfInBounds_toArray, List.set_cons_zero, List.set_cons_succ, i64_w, i32_w]
                rfl
              refine pure_ (i := 4) (N := some 17) (v := ?_) (a' := ?_) #[true, false, true, false, true, false, false, false, false, false, false, false, false, false, false] rfl rfl (any_of HT_.out (by kernel_rfl)) (fun _ _ _ h => h) (Or.inl ⟨by rfl, ?_⟩) ?_ ?_
              rotate_left
              · intro w'
                go_simp
                with_reducible rfl
              rotate_left
              · simp only [Act.put, List.setIfInBounds_toArray, List.set_cons_zero, List.set_cons_succ, i64_w, i32_w]
                rfl
              refine pure_ (i := 5) (N := some 18) (v := ?_) (a' := ?_) #[true, false, true, false, true, true, false, false, false, false, false, false, false, false, false] rfl rfl (any_of HT_.out (by kernel_rfl)) (fun _ _ _ h => h) (Or.inl ⟨by rfl, ?_⟩) ?_ ?_
              rotate_left
              · intro w'
                go_simp
                with_reducible rfl
              rotate_left
              · simp only [Act.put, List.setIfInBounds_toArray, List.set_cons_zero, List.set_cons_succ, i64_w, i32_w]
                rfl
              refine pure_ (i := 6) (N := some 19) (v := ?_) (a' := ?_) #[true, false, true, false, true, true, true, false, false, false, false, false, false, false, false] rfl rfl (any_of HT_.out (by kernel_rfl)) (fun _ _ _ h => h) (Or.inl ⟨by rfl, ?_⟩) ?_ ?_
              rotate_left
              · intro w'
                go_simp
                with_reducible rfl
              rotate_left
              · simp only [Act.put, List.setIfInBounds_toArray, List.set_cons_zero, List.set_cons_succ, i64_w, i32_w]
                rfl
              refine pure_ (i := 7) (N := some 20) (v := ?_) (a' := ?_) #[true, false, true, false, true, true, true, true, false, false, false, false, false, false, false] rfl rfl (any_of HT_.out (by kernel_rfl)) (fun _ _ _ h => h) (Or.inl ⟨by rfl, ?_⟩) ?_ ?_
              rotate_left
              · intro w'
                go_simp
                with_reducible rfl
              rotate_left
              · simp only [Act.put, List.setIfInBounds_toArray, List.set_cons_zero, List.set_cons_succ, i64_w, i32_w]
                rfl
              refine take_ (i := 1) (N := some 14) (v := ?_) (a' := ?_) #[true, true, true, false, true, true, true, true, false, false, false, false, false, false, false] rfl rfl (take_ofW HT_.out HW_.out (by kernel_rfl)) (fun _ _ _ h => h) (Or.inl ⟨by rfl, ?_⟩) hHeld ?_ ?_
              rotate_left
              · rintro w' ⟨s0, s1, s2, s3, s4⟩
                go_simp
                with_reducible rfl
              rotate_left
              · simp only [Act.put, List.setIfInBounds_toArray, List.set_cons_zero, List.set_cons_succ, i64_w, i32_w]
                rfl
              refine take_ (i := 3) (N := some 16) (v := ?_) (a' := ?_) #[true, true, true, true, true, true, true, true, false, false, false, false, false, false, false] rfl rfl (take_ofW HT_.out HW_.out (by kernel_rfl)) (fun _ _ _ h => h) (Or.inl ⟨by rfl, ?_⟩) hHeld ?_ ?_
              rotate_left
              · rintro w' ⟨s0, s1, s2, s3, s4⟩
                go_simp
                with_reducible rfl
              rotate_left
              · simp only [Act.put, List.setIfInBounds_toArray, List.set_cons_zero, List.set_cons_succ, i64_w, i32_w]
                rfl
              refine pure_ (i := 8) (N := some 21) (v := ?_) (a' := ?_) #[true, true, true, true, true, true, true, true, true, false, false, false, false, false, false] rfl rfl (any_of HT_.out (by kernel_rfl)) (fun _ _ _ h => h) (Or.inl ⟨by rfl, ?_⟩) ?_ ?_
              rotate_left
              · intro w'
                go_simp
                with_reducible rfl
              rotate_left
              · simp only [Act.put, List.setIfInBounds_toArray, List.set_cons_zero, List.set_cons_succ, i64_w, i32_w]
                rfl
              refine take_ (i := 9) (N := some 22) (v := ?_) (a' := ?_) #[true, true, true, true, true, true, true, true, true, true, false, false, false, false, false] rfl rfl (take_ofW HT_.out HW_.out (by kernel_rfl)) (fun _ _ _ h => h) (Or.inl ⟨by rfl, ?_⟩) hHeld ?_ ?_
              rotate_left
              · rintro w' ⟨s0, s1, s2, s3, s4⟩
                go_simp
                with_reducible rfl
              rotate_left
              · simp only [Act.put, List.setIfInBounds_toArray, List.set_cons_zero, List.set_cons_succ, i64_w, i32_w]
                rfl
              refine one_ (i := 10) (N := some 23) #[true, true, true, true, true, true, true, true, true, true, true, false, false, false, false] rfl rfl (one_of HT_.out (by kernel_rfl)) (by decide) (fun K hK => ?_)
              refine goes_ Try.func30 (by kernel_rfl) rfl #[.agg #[.int .i64 ((rd_T38 l0_0 (ji8)).f0), .string ((rd_T38 l0_0 (ji8)).f1), .string ((rd_T38 l0_0 (ji8)).f2)]] (by rfl) rfl rfl (by (try simp only [List.map_toArray, List.map_cons, List.map_nil]); first | done | (simp only [hji8]; rfl) | rfl | (simp only [List.length_drop, List.length_take]; rfl)) ?_
              with_reducible refine (edit_Inverse.calls ((rd_T38 l0_0 (ji8)).f0) ((rd_T38 l0_0 (ji8)).f1) ((rd_T38 l0_0 (ji8)).f2) t114 t115 t116 _ A11.out).mono ?_
              rintro e w14 ⟨rfl, hb⟩
              refine ⟨_, rfl, ?_⟩
              have n0_ := Aside0.mk (Kd.R_below (by (with_reducible repeat (first | apply Kd.R_alloc | apply Kd.R_drewN | apply Kd.R_drew)); exact HO_113000.out) hb)
              have n1_ := Aside0.mk (blk_below (g := gb110) (o := .cells #[.slice (some ad113) l0_0.length c0_0] 28 (0, 0)) (by (with_reducible repeat (first | refine blk_drewN ?_ _ | refine blk_drew ?_ | refine blk_alloc ?_ _)); exact BK110.out) hb)
              have n2_ := Aside0.mk (blk_below (g := gb111) (o := .cells #[.slice none 0 0] 28 (0, 0)) (by (with_reducible repeat (first | refine blk_drewN ?_ _ | refine blk_drew ?_ | refine blk_alloc ?_ _)); exact BK111.out) hb)
              have n3_ := Aside0.mk (blk_below (g := gb112) (o := .cells #[u113000] 28 (0, 0)) (by (with_reducible repeat (first | refine blk_drewN ?_ _ | refine blk_drew ?_ | refine blk_alloc ?_ _)); exact BK112.out) hb)
              have n4_ := Aside0.mk (below_step (by repeat (first | (with_reducible first | exact HB.out | apply below_alloc | apply pw_below_drewN | apply below_drew1 | refine below_set ?_ GE110.out | refine below_set ?_ GE111.out | refine below_set ?_ GE112.out) | exact HB.out)) hb)
              clear HO_113000
              clear BK110
              clear BK111
              clear BK112
              clear HB
              have HO_113000 := n0_
              have BK110 := n1_
              have BK111 := n2_
              have BK112 := n3_
              have HB := n4_
              clear n0_ n1_ n2_ n3_ n4_
              (try clear hb)
              (try clear hb2)
              (try clear hk)
              (try clear hi)
              refine hK.out _ _ ⟨(blk_cell BK112.out 0).trans rfl, (blk_cell BK110.out 0).trans rfl, ((HB.out.cell (World.block_lt_of_cell? w _ hw113_0)).trans hw113_0), ((HB.out.cell (World.block_lt_of_cell? w _ hw113_1)).trans hw113_1), ((HB.out.cell (World.block_lt_of_cell? w _ hw113_2)).trans hw113_2)⟩ (fun hHeld => ?_)
              clear hK K
              refine norm_ (a' := ?_) ?_ ?_
              rotate_left
              · show Act.put _ (some 23) _ = _
                simp only [Act.put, List.setIfInBounds_toArray, List.set_cons_zero, List.set_cons_succ, i64_w, i32_w]
                rfl
              refine one_ (i := 11) (N := some 24) #[true, true, true, true, true, true, true, true, true, true, true, true, false, false, false] rfl rfl (one_of HT_.out (by kernel_rfl)) (by decide) (fun K hK => ?_)
              refine value_ (w1 := ?_) (v := ?_) (by rfl) rfl ?_ ?_
              rotate_left 2
              · go_simp
                constructor
                · rfl
                · rfl
              refine hK.out _ _ ⟨(blk_cell (blk_alloc BK112.out _) 0).trans rfl, (blk_cell (blk_alloc BK110.out _) 0).trans rfl, (World.cell?_alloc_lt _ _ _ (World.block_lt_of_cell? _ _ (((HB.out.cell (World.block_lt_of_cell? w _ hw113_0)).trans hw113_0)))).trans (((HB.out.cell (World.block_lt_of_cell? w _ hw113_0)).trans hw113_0)), (World.cell?_alloc_lt _ _ _ (World.block_lt_of_cell? _ _ (((HB.out.cell (World.block_lt_of_cell? w _ hw113_1)).trans hw113_1)))).trans (((HB.out.cell (World.block_lt_of_cell? w _ hw113_1)).trans hw113_1)), (World.cell?_alloc_lt _ _ _ (World.block_lt_of_cell? _ _ (((HB.out.cell (World.block_lt_of_cell? w _ hw113_2)).trans hw113_2)))).trans (((HB.out.cell (World.block_lt_of_cell? w _ hw113_2)).trans hw113_2))⟩ (fun hHeld => ?_)
              clear hK K
              refine norm_ (a' := ?_) ?_ ?_
              rotate_left
              · show Act.put _ (some 24) _ = _
                simp only [Act.put, List.setIfInBounds_toArray, List.set_cons_zero, List.set_cons_succ, i64_w, i32_w]
                rfl
              refine one_ (i := 12) (N := some 25) #[true, true, true, true, true, true, true, true, true, true, true, true, true, false, false] rfl rfl (one_of HT_.out (by kernel_rfl)) (by decide) (fun K hK => ?_)
              refine Kd.R_append_step k38 (w0 := w) w.heap.size (by rfl) (.tmp 14) (.tmp 24) 26 38 (.agg #[(.int .i64 0), (.string ⟨#[]⟩), (.string ⟨#[]⟩)]) 40 rfl Try.underlying26 info38 rfl (by decide) (by omega) u113000 x113000_1 (⟨t114, t115, t116⟩ : S38) [.int .i64 t114, .string t115, .string t116] (fun _ => True) (fun _ => False) rfl rfl ?aP (fun _ hk => hk.elim) ?aF ?aO ?aB ?aS ?aL ?_
              (case aP => exact k38_mkM _ _ _ (⟨t114, t115, t116⟩ : S38))
              (case aB => exact (by repeat (first | (with_reducible first | exact HB.out | apply below_alloc | apply pw_below_drewN | apply below_drew1 | refine below_set ?_ GE110.out | refine below_set ?_ GE111.out | refine below_set ?_ GE112.out) | exact HB.out)))
              (case aF => exact (fun _ _ => trivial))
              (case aO => exact (by (with_reducible repeat (first | apply Kd.R_alloc | apply Kd.R_drewN | apply Kd.R_drew)); exact HO_113000.out))
              (case aS => exact (below_size (by repeat (first | (with_reducible first | exact HB.out | apply below_alloc | apply pw_below_drewN | apply below_drew1 | refine below_set ?_ GE110.out | refine below_set ?_ GE111.out | refine below_set ?_ GE112.out) | exact HB.out))))
              (case aL => have := LMc12.out; omega)
              intro v118 w15 ho hb hg hat
              rw [← Ny117.out] at ho
              have n0_ := Aside0.mk (blk_grown (g := gb110) (o := .cells #[.slice (some ad113) l0_0.length c0_0] 28 (0, 0)) (by (with_reducible repeat (first | refine blk_drewN ?_ _ | refine blk_drew ?_ | refine blk_alloc ?_ _)); exact BK110.out) hg (Kd.R_ne HO_113000.out BK110.out (by decide)))
              have n1_ := Aside0.mk (blk_grown (g := gb111) (o := .cells #[.slice none 0 0] 28 (0, 0)) (by (with_reducible repeat (first | refine blk_drewN ?_ _ | refine blk_drew ?_ | refine blk_alloc ?_ _)); exact BK111.out) hg (Kd.R_ne HO_113000.out BK111.out (by decide)))
              have n2_ := Aside0.mk (blk_grown (g := gb112) (o := .cells #[u113000] 28 (0, 0)) (by (with_reducible repeat (first | refine blk_drewN ?_ _ | refine blk_drew ?_ | refine blk_alloc ?_ _)); exact BK112.out) hg (Kd.R_ne HO_113000.out BK112.out (by decide)))
              have n3_ := Aside0.mk (hb)
              have n4_ := Aside0.mk (ho)
              clear BK110
              clear BK111
              clear BK112
              clear HB
              clear HO_113000
              have BK110 := n0_
              have BK111 := n1_
              have BK112 := n2_
              have HB := n3_
              have HO119 := n4_
              clear n0_ n1_ n2_ n3_ n4_
              clear ho hb hg hat
              obtain ⟨Ao16, co16, eo16⟩ := Kd.R_slice HO119.out
              (first | subst eo16 | (injection eo16 with f1_ f2_ f3_; have f4_ := f1_.symm; have f5_ := f3_.symm; clear f1_ f2_ f3_; subst f4_; subst f5_))
              refine hK.out _ _ ⟨(blk_cell BK112.out 0).trans rfl, (blk_cell BK110.out 0).trans rfl, ((HB.out.cell (World.block_lt_of_cell? w _ hw113_0)).trans hw113_0), ((HB.out.cell (World.block_lt_of_cell? w _ hw113_1)).trans hw113_1), ((HB.out.cell (World.block_lt_of_cell? w _ hw113_2)).trans hw113_2)⟩ (fun hHeld => ?_)
              clear hK K
              refine norm_ (a' := ?_) ?_ ?_
              rotate_left
              · show Act.put _ (some 25) _ = _
                simp only [Act.put, List.setIfInBounds_toArray, List.set_cons_zero, List.set_cons_succ, i64_w, i32_w]
                rfl
              refine pure_ (i := 13) (N := some 26) (v := ?_) (a' := ?_) #[true, true, true, true, true, true, true, true, true, true, true, true, true, true, false] rfl rfl (any_of HT_.out (by kernel_rfl)) (fun _ _ _ h => h) (Or.inl ⟨by rfl, ?_⟩) ?_ ?_
              rotate_left
              · intro w'
                go_simp
                with_reducible rfl
              rotate_left
              · simp only [Act.put, List.setIfInBounds_toArray, List.set_cons_zero, List.set_cons_succ, i64_w, i32_w]
                rfl
              refine last_ (i := 14) (N := none) #[true, true, true, true, true, true, true, true, true, true, true, true, true, true, true] rfl rfl (one_of HT_.out (by kernel_rfl)) (by decide) (fun K hK => ?_)
              have hs17 : w15.cell? ⟨gb112, 0, none⟩ = some (u113000) := (blk_cell BK112.out 0).trans rfl
              have hfs17 := blk_frozen BK112.out 0
              have hns17_0 := NB110_112.out
              have hns17_1 := NB111_112.out
              have hms17_0 := NB112_110.out
              have hms17_1 := NB112_111.out
              refine skip_ (w1 := ?_) (by rfl) rfl ?_ ?_
              rotate_left
              · go_simp
                rfl
              refine hK.out _ _ ?_
              clear hK K
              refine done_ (done_of HT_.out (by kernel_rfl)) ?_
              try go_wp2
              go_roundg k1
              case measure => have := HK1.out; omega
              case rel => exact ⟨(wrap64 (x10_1 + 1)), (y117), (.slice Ao16 y117.length co16), (by first | rfl | (simp; done) | (simp [*]; done)), H', ⟨by have := HK1.out; omega⟩, ⟨by (with_reducible repeat (first | apply Kd.R_alloc | apply Kd.R_drewN | apply Kd.R_drew)); exact Kd.R_mono (Kd.R_far (p := ⟨gb112, 0, none⟩) (Kd.R_types HO119.out BK112.out (by decide)) (fun _ hk => hk.2) (.slice Ao16 y117.length co16)) (fun _ hk => trivial)⟩, ⟨by (with_reducible repeat (first | refine blk_drewN ?_ _ | refine blk_drew ?_ | refine blk_alloc ?_ _)); refine blk_far ?_ NB110_112.out _; (with_reducible repeat (first | refine blk_drewN ?_ _ | refine blk_drew ?_ | refine blk_alloc ?_ _)); exact BK110.out⟩, ⟨by (with_reducible repeat (first | refine blk_drewN ?_ _ | refine blk_drew ?_ | refine blk_alloc ?_ _)); refine blk_far ?_ NB111_112.out _; (with_reducible repeat (first | refine blk_drewN ?_ _ | refine blk_drew ?_ | refine blk_alloc ?_ _)); exact BK111.out⟩, ⟨by (with_reducible repeat (first | refine blk_drewN ?_ _ | refine blk_drew ?_ | refine blk_alloc ?_ _)); refine blk_put (cs := #[u113000]) ?_ 0 _ rfl; (with_reducible repeat (first | refine blk_drewN ?_ _ | refine blk_drew ?_ | refine blk_alloc ?_ _)); exact BK112.out⟩, ⟨by repeat (first | (with_reducible first | exact HB.out | apply below_alloc | apply pw_below_drewN | apply below_drew1 | refine below_set ?_ GE110.out | refine below_set ?_ GE111.out | refine below_set ?_ GE112.out) | exact HB.out)⟩⟩
            · rw [if_neg c12] at H
              exact absurd H (by simp)
          · rw [if_neg c10] at H
            exact absurd H (by simp)
        · rw [if_neg c9] at H
          exact absurd H (by simp)
      · rw [if_neg c7] at H
        have c7b0 : decide (x10_1 < (l0_0.length : Int)) = false := decide_eq_false c7
        clear c7
        obtain rfl := Option.some.inj H
        have hnb18 := NB112_110.out
        have hnc18 := NB110_112.out
        have hnb19 := NB112_111.out
        have hnc19 := NB111_112.out
        have hcz20_0 : wr.cell? ⟨gb112, 0, none⟩ = some (u113000) := (blk_cell BK112.out 0).trans rfl
        have hfz20_0 := blk_frozen BK112.out 0
        obtain ⟨Ao21, co21, eo21⟩ := Kd.R_slice HO_113000.out
        subst eo21
        have hnb22 := NB111_110.out
        have hnc22 := NB110_111.out
        have hcz23_0 : wr.cell? ⟨gb111, 0, none⟩ = some (.slice none 0 0) := (blk_cell BK111.out 0).trans rfl
        have hfz23_0 := blk_frozen BK111.out 0
        go_wp2
        refine bodyPost_ret (results_cell_row rfl _ _ gb111 28 #[.slice Ao21 x113000_1.length co21] (0, 0) _ rfl (by (with_reducible repeat (first | refine blk_drewN ?_ _ | refine blk_drew ?_ | refine blk_alloc ?_ _)); refine blk_put (cs := #[.slice none 0 0]) ?_ 0 _ rfl; (with_reducible repeat (first | refine blk_drewN ?_ _ | refine blk_drew ?_ | refine blk_alloc ?_ _)); exact BK111.out) Try.underlying28 rfl (by kernel_rfl)) rfl ?_
        exact ⟨_, by first | rfl | (simp [errW_none, errW_some] <;> rfl) | (simp [*, errW_none, errW_some] <;> rfl), by (with_reducible repeat (first | apply Kd.R_alloc | apply Kd.R_drewN | apply Kd.R_drew)); exact Kd.R_mono (Kd.R_far (p := ⟨gb111, 0, none⟩) (Kd.R_types HO_113000.out BK111.out (by decide)) (fun _ hk => hk.2) (.slice Ao21 x113000_1.length co21)) (fun _ hk => trivial), by repeat (first | (with_reducible first | exact HB.out | apply below_alloc | apply pw_below_drewN | apply below_drew1 | refine below_set ?_ GE110.out | refine below_set ?_ GE111.out | refine below_set ?_ GE112.out) | exact HB.out)⟩

end Go.Proofs.Ytbcokholddlpbaa.P
