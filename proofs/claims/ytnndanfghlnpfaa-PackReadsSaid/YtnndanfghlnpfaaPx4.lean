import Derived.Test.YtnndanfghlnpfaaPx0
import Derived.Test.YtnndanfghlnpfaaPx3
namespace Go.Proofs.Ytnndanfghlnpfaa.P
open Go.RowKit Go.Proofs.YtnndanfghlnpfaaW.PrintWords Go.Proofs.YtnndanfghlnpfaaW.PrintLast Go.Proofs.YtnndanfghlnpfaaW.PrintMore
attribute [local go_sem] max2_int min2_int max_two min_two max_three min_three max_four min_four   -- for this text's walks alone
set_option linter.unusedVariables false
set_option linter.unusedSimpArgs false
/-! ### step_Inverse: function 66 -/
def step_Inverse.l0 : Nat → Int → Int → Int → List (S88) → List (S88) → Option ((List (S88)))
 | 0, _, _, _, _, _ => none
 | k + 1, x3, x9, x10, x107000, x109000 => if x10 < x9 then (if 0 ≤ (wrap64 ((wrap64 (x3 - 1)) - x10)) then (if (wrap64 ((wrap64 (x3 - 1)) - x10)) < (x107000.length : Int) then ((edit_Inverse.f ((rd_T88 x107000 (wrap64 ((wrap64 (x3 - 1)) - x10))).f0) ((rd_T88 x107000 (wrap64 ((wrap64 (x3 - 1)) - x10))).f1) ((rd_T88 x107000 (wrap64 ((wrap64 (x3 - 1)) - x10))).f2)).bind fun bt110 => (if x109000.length < 3518437208883 then (step_Inverse.l0 k x3 x9 (wrap64 (x10 + 1)) x107000 (x109000 ++ [(⟨bt110.1, bt110.2.1, bt110.2.2⟩ : S88)])) else (none))) else (none)) else (none)) else (some x109000)
def step_Inverse.f (k : Nat) (l0_0 : List (S88)) : Option ((List (S88))) := step_Inverse.l0 k (l0_0.length : Int) (l0_0.length : Int) 0 l0_0 ([] : List (S88))
theorem step_Inverse.mono_l : ∀ k, (∀ y0 y1 y2 y3 y4, LeO (step_Inverse.l0 k y0 y1 y2 y3 y4) (step_Inverse.l0 (k + 1) y0 y1 y2 y3 y4))
 | 0 => fun _ _ _ _ _ r h => by simp [step_Inverse.l0] at h
 | k + 1 => by
  have ih0 := step_Inverse.mono_l k
  ·intro y0 y1 y2 y3 y4
   unfold step_Inverse.l0
   repeat' first
   | (with_reducible exact ih0 _ _ _ _ _)
   | (with_reducible exact LeO.refl _)
   | (with_reducible exact LeO.none _)
   | (with_reducible refine LeO.ite ?_ ?_)
   | (with_reducible refine LeO.bind ?_ (fun _ => ?_))
   | exact ih0 _ _ _ _ _
   | exact LeO.none _
   | refine LeO.ite ?_ ?_
   | refine LeO.bind ?_ (fun _ => ?_)
theorem step_Inverse.mono : ∀ a0 k, LeO (step_Inverse.f k a0) (step_Inverse.f (k + 1) a0) := by
 intro a0 k
 have ih0 := step_Inverse.mono_l k
 unfold step_Inverse.f
 repeat' first
   | (with_reducible exact ih0 _ _ _ _ _)
   | (with_reducible exact LeO.refl _)
   | (with_reducible exact LeO.none _)
   | (with_reducible refine LeO.ite ?_ ?_)
   | (with_reducible refine LeO.bind ?_ (fun _ => ?_))
   | exact ih0 _ _ _ _ _
   | exact LeO.none _
   | refine LeO.ite ?_ ?_
   | refine LeO.bind ?_ (fun _ => ?_)
def step_Inverse.T6 : Bool × List (List Nat × List Nat) := (true, [([], []), ([0], [0]), ([], []), ([2], [2]), ([], []), ([4], [4]), ([], []), ([5, 6], [5, 6]), ([3, 7], [3, 7]), ([8], [8]), ([9], [9]), ([10], [10]), ([1, 11, 10], [1, 11]), ([0, 1, 2, 3, 4, 5, 6, 7, 8, 9, 10, 11, 12], []), ([13, 12, 12, 0, 1, 2, 3, 4, 5, 6, 7, 8, 9, 10, 11, 12], [12, 13])])
def step_Inverse.B6 : List Nat := [0, 1, 0, 4, 0, 16, 0, 112, 252, 508, 1020, 2044, 4095, 8191, 16383]
theorem step_Inverse.tab6 : rtab .any (opsOf Try.f66 6) = step_Inverse.T6 := by kernel_rfl
theorem step_Inverse.bits6 : waitsOk step_Inverse.T6.2 step_Inverse.B6 = true := by kernel_rfl
set_option maxHeartbeats 8000000 in
set_option maxRecDepth 100000 in
theorem step_Inverse.calls (k : Nat) (A0_0 : Option Addr) (c0_0 : Nat) (l0_0 : List (S88)) (r : List (S88)) (w : World) (hr0_0 : Kd.C k88 w A0_0 l0_0.length l0_0) (hc0_0 : l0_0.length ≤ c0_0) (h : step_Inverse.f k l0_0 = some r) :
  Calls Try.prog 66 #[.agg #[.slice A0_0 l0_0.length c0_0]] w fun e w' => ∃ v0_ : Value, e = .returned (.agg #[v0_]) ∧ Kd.R k88 88 w' w.heap.size (fun _ => True) v0_ r ∧ Below w.heap.size w w' := by
 have hu38 := Try.underlying38
 have hu88 := Try.underlying88
 have HR0_0 := aS_ hr0_0
 have HC0_0 := aS_ hc0_0
 clear hr0_0 hc0_0
 have HB := aS_ (Below.refl w.heap.size w)
 have H : (step_Inverse.l0 k (l0_0.length : Int) (l0_0.length : Int) 0 l0_0 ([] : List (S88))) = some r := h
 clear h
 have H' := aS_ H
 clear H
 go_enter Try.func66, Try.ntmps66
 go_wp2_with (first | (refine bx_ 1 #[.slice A0_0 l0_0.length c0_0] 38 ?_; intro gb106 hg w2 hbox hb; have BK106 := aS_ (hbox); have GW106 := ge_ hg (wk HB.out); have GE106 := ge_ hg (wk HB.out); replace HB := bw_ HB hb; clear hb hbox hg) | (refine bx_ 2 #[.slice none 0 0] 38 ?_; intro gb107 hg w3 hbox hb; have BK107 := aS_ (hbox); have GW107 := ge_ hg (wk HB.out); have GE107 := ge_ hg (wk HB.out); replace HB := bw_ HB hb; have NB106_107 := nq_ hg (bk BK106.out); replace BK106 := bb_ BK106 hb; have NB107_106 := nr_ NB106_107; clear hb hbox hg; have hnb4 := NB106_107.out; have hnc4 := NB107_106.out; obtain ⟨hcz5_0, hfz5_0⟩ := c1_ BK106.out) | (refine bx_ 4 #[.slice none 0 0] 38 ?_; intro gb108 hg w6 hbox hb; have BK108 := aS_ (hbox); have GW108 := ge_ hg (wk HB.out); have GE108 := ge_ hg (wk HB.out); replace HB := bw_ HB hb; have NB106_108 := nq_ hg (bk BK106.out); replace BK106 := bb_ BK106 hb; have NB108_106 := nr_ NB106_108; have NB107_108 := nq_ hg (bk BK107.out); replace BK107 := bb_ BK107 hb; have NB108_107 := nr_ NB107_108; clear hb hbox hg))
 go_loopg [10] k (fun kq v10 w' => ∃ (x10_1 : Int) (x109000_1 : List (S88)) (u109000 : Value), v10 = .int .i64 x10_1 ∧ Aside0 (step_Inverse.l0 kq (l0_0.length : Int) (l0_0.length : Int) x10_1 l0_0 x109000_1 = some r) ∧ Aside0 (kq ≤ k) ∧ Aside0 (Kd.R k88 88 w' w.heap.size (fun _ => True) u109000 x109000_1) ∧ Aside0 (w'.heap[gb106]? = some (.cells #[(.slice A0_0 l0_0.length c0_0)] 38 (0, 0))) ∧ Aside0 (w'.heap[gb107]? = some (.cells #[(.slice none 0 0)] 38 (0, 0))) ∧ Aside0 (w'.heap[gb108]? = some (.cells #[u109000] 38 (0, 0))) ∧ Aside0 (Below w.heap.size w w'))
 case atStart => exact ⟨(0), (([] : List (S88))), (.slice none 0 0), t0, H', ⟨Nat.le_refl _⟩, ⟨by first | exact Kd.R_nil _ _ _ _ _ | exact Kd.N_nil _ _ _ _ _ | exact Kd.V_nil _ _ _ _ _ | exact Kd.Q_nil _ _ _ _ _ | exact Kd.S_nil _ _ _ _ _⟩, ⟨bq BK106.out⟩, ⟨bq BK107.out⟩, ⟨bq BK108.out⟩, ⟨wk HB.out⟩⟩
 case round =>
  clear H'
  try clear p2
  try clear c4
  try clear c6
  try clear hcz5_0 hfz5_0
  obtain ⟨x10_1, x109000_1, u109000, rfl, HA, HK1, HO_109000, BK106, BK107, BK108, HB⟩ := hrel
  cases gk with
  | zero => exact absurd HA.out (by simp [step_Inverse.l0])
  | succ k1 =>
   have H := HA.out
   clear HA
   simp only [step_Inverse.l0] at H
   by_cases c7 : x10_1 < (l0_0.length : Int)
   ·rw [if_pos c7] at H
    have c7b0 := decide_eq_true c7
    clear c7
    obtain ⟨ji8, hji8⟩ : ∃ j_ : Int, (wrap64 ((wrap64 ((l0_0.length : Int) - 1)) - x10_1)) = j_ := ⟨_, rfl⟩
    replace H : (if 0 ≤ (ji8) then (if (ji8) < (l0_0.length : Int) then ((edit_Inverse.f ((rd_T88 l0_0 (ji8)).f0) ((rd_T88 l0_0 (ji8)).f1) ((rd_T88 l0_0 (ji8)).f2)).bind fun bt110 => (if x109000_1.length < 3518437208883 then (step_Inverse.l0 k1 (l0_0.length : Int) (l0_0.length : Int) (wrap64 (x10_1 + 1)) l0_0 (x109000_1 ++ [(⟨bt110.1, bt110.2.1, bt110.2.2⟩ : S88)])) else (none))) else (none)) else (none)) = some r := by first | (rw [hji8] at H; exact H) | (simp only [hji8] at H ⊢; exact H)
    have hji8w : (IntKind.i64.wrap ((wrap64 ((l0_0.length : Int) - 1)) - x10_1)) = ji8 := (i64_w _).trans hji8
    by_cases c9 : 0 ≤ (ji8)
    ·rw [if_pos c9] at H
     have c9b0 := decide_eq_true c9
     clear c9
     by_cases c10 : (ji8) < (l0_0.length : Int)
     ·rw [if_pos c10] at H
      have c10b0 := decide_eq_true c10
      clear c10
      replace H := Option.bind_eq_some_iff.mp H
      obtain ⟨⟨t110, t111, t112⟩, A110, H⟩ := H
      try dsimp only at H
      have A11 := aS_ A110
      clear A110
      by_cases c12 : x109000_1.length < 3518437208883
      ·rw [if_pos c12] at H
       have LMc12 := aS_ c12
       clear c12
       obtain ⟨y113, hy113⟩ : ∃ y_ : List (S88), y_ = (x109000_1 ++ [(⟨t110, t111, t112⟩ : S88)]) := ⟨_, rfl⟩
       replace H : (step_Inverse.l0 k1 (l0_0.length : Int) (l0_0.length : Int) (wrap64 (x10_1 + 1)) l0_0 y113) = some r := by first | (rw [hy113]; with_reducible exact H) | (have H2_ := (Option.bind_some _ _).symm.trans H; rw [hy113]; with_reducible exact H2_) | (have H2_ := (Option.bind_some _ _).symm.trans H; with_reducible exact H2_) | with_reducible exact H | (rw [hy113]; exact H) | exact H
       have Ny113 := aS_ hy113
       clear hy113
       have H' := aS_ H
       clear H
       try go_wp2
       have n0_ := aS_ (Kd.R_drew HO_109000.out)
       have n1_ := aS_ (bD BK106.out)
       have n2_ := aS_ (bD BK107.out)
       have n3_ := aS_ (bD BK108.out)
       have n4_ := aS_ (w1_ HB.out)
       clear HO_109000
       clear BK106
       clear BK107
       clear BK108
       clear HB
       have HO_109000 := n0_
       have BK106 := n1_
       have BK107 := n2_
       have BK108 := n3_
       have HB := n4_
       clear n0_ n1_ n2_ n3_ n4_
       have p109 : 0 ≤ ((ji8) : Int) := of_decide_eq_true (by first | (with_reducible assumption) | assumption)
       have q109 : (ji8) < (l0_0.length : Int) := of_decide_eq_true (by first | (with_reducible assumption) | assumption)
       obtain ⟨ad109, e109, hx109_0, hx109_1, hx109_2⟩ := at_T88 HR0_0.out (ji8) p109 q109
       have hw109_2 := hx109_2
       have hw109_1 := hx109_1
       have hw109_0 := hx109_0
       cases e109
       replace hx109_0 := (HB.out.cell (World.block_lt_of_cell? w _ hx109_0)).trans hx109_0
       replace hx109_1 := (HB.out.cell (World.block_lt_of_cell? w _ hx109_1)).trans hx109_1
       replace hx109_2 := (HB.out.cell (World.block_lt_of_cell? w _ hx109_2)).trans hx109_2
       replace p109 := eq_true p109
       replace q109 := eq_true q109
       refine start_ (n := 15) (S := fun w' => w'.cell? ⟨gb108, 0, none⟩ = some (u109000) ∧ w'.cell? ⟨gb106, 0, none⟩ = some (.slice (some ad109) l0_0.length c0_0) ∧ w'.cell? (ad109.add (((ji8)).toNat * 3)) = some (.int .i64 ((rd_T88 l0_0 (ji8)).f0)) ∧ w'.cell? ⟨(ad109.add (((ji8)).toNat * 3)).block, (ad109.add (((ji8)).toNat * 3)).off + 1, none⟩ = some (.string ((rd_T88 l0_0 (ji8)).f1)) ∧ w'.cell? ⟨(ad109.add (((ji8)).toNat * 3)).block, (ad109.add (((ji8)).toNat * 3)).off + 2, none⟩ = some (.string ((rd_T88 l0_0 (ji8)).f2))) (ds := [14]) #[false, false, false, false, false, false, false, false, false, false, false, false, false, false, false] (by kernel_rfl) rfl rfl ⟨(blk_cell BK108.out 0).trans rfl, (blk_cell BK106.out 0).trans rfl, ((HB.out.cell (World.block_lt_of_cell? w _ hw109_0)).trans hw109_0), ((HB.out.cell (World.block_lt_of_cell? w _ hw109_1)).trans hw109_1), ((HB.out.cell (World.block_lt_of_cell? w _ hw109_2)).trans hw109_2)⟩ (fun hHeld => ?_); refine with_tabW step_Inverse.tab6 step_Inverse.bits6 (fun HT_ HW_ => ?_)
       generalize wr.drew = w13 at HO_109000 BK106 BK107 BK108 HB hx109_0 hx109_1 hx109_2 hHeld ⊢
       refine pure_ (i := 0) (N := some 13) (v := ?_) (a' := ?_) #[true, false, false, false, false, false, false, false, false, false, false, false, false, false, false] rfl rfl (any_of HT_.out (by kernel_rfl)) (fun _ _ _ h => h) (Or.inl ⟨by rfl, ?_⟩) ?_ ?_
       rotate_left
       ·intro w'
        go_simp
        with_reducible rfl
       rotate_left
       ·simp only [Act.put, List.setIfInBounds_toArray, List.set_cons_zero, List.set_cons_succ, i64_w, i32_w]
        rfl
       refine pure_ (i := 2) (N := some 15) (v := ?_) (a' := ?_) #[true, false, true, false, false, false, false, false, false, false, false, false, false, false, false] rfl rfl (any_of HT_.out (by kernel_rfl)) (fun _ _ _ h => h) (Or.inl ⟨by rfl, ?_⟩) ?_ ?_
       rotate_left
       ·intro w'
        go_simp
        with_reducible rfl
       rotate_left
       ·simp only [Act.put, List.setIfInBounds_toArray, List.set_cons_zero, List.set_cons_succ, i64_w, i32_w]
        rfl
       refine pure_ (i := 4) (N := some 17) (v := ?_) (a' := ?_) #[true, false, true, false, true, false, false, false, false, false, false, false, false, false, false] rfl rfl (any_of HT_.out (by kernel_rfl)) (fun _ _ _ h => h) (Or.inl ⟨by rfl, ?_⟩) ?_ ?_
       rotate_left
       ·intro w'
        go_simp
        with_reducible rfl
       rotate_left
       ·simp only [Act.put, List.setIfInBounds_toArray, List.set_cons_zero, List.set_cons_succ, i64_w, i32_w]
        rfl
       refine pure_ (i := 5) (N := some 18) (v := ?_) (a' := ?_) #[true, false, true, false, true, true, false, false, false, false, false, false, false, false, false] rfl rfl (any_of HT_.out (by kernel_rfl)) (fun _ _ _ h => h) (Or.inl ⟨by rfl, ?_⟩) ?_ ?_
       rotate_left
       ·intro w'
        go_simp
        with_reducible rfl
       rotate_left
       ·simp only [Act.put, List.setIfInBounds_toArray, List.set_cons_zero, List.set_cons_succ, i64_w, i32_w]
        rfl
       refine pure_ (i := 6) (N := some 19) (v := ?_) (a' := ?_) #[true, false, true, false, true, true, true, false, false, false, false, false, false, false, false] rfl rfl (any_of HT_.out (by kernel_rfl)) (fun _ _ _ h => h) (Or.inl ⟨by rfl, ?_⟩) ?_ ?_
       rotate_left
       ·intro w'
        go_simp
        with_reducible rfl
       rotate_left
       ·simp only [Act.put, List.setIfInBounds_toArray, List.set_cons_zero, List.set_cons_succ, i64_w, i32_w]
        rfl
       refine pure_ (i := 7) (N := some 20) (v := ?_) (a' := ?_) #[true, false, true, false, true, true, true, true, false, false, false, false, false, false, false] rfl rfl (any_of HT_.out (by kernel_rfl)) (fun _ _ _ h => h) (Or.inl ⟨by rfl, ?_⟩) ?_ ?_
       rotate_left
       ·intro w'
        go_simp
        with_reducible rfl
       rotate_left
       ·simp only [Act.put, List.setIfInBounds_toArray, List.set_cons_zero, List.set_cons_succ, i64_w, i32_w]
        rfl
       refine take_ (i := 1) (N := some 14) (v := ?_) (a' := ?_) #[true, true, true, false, true, true, true, true, false, false, false, false, false, false, false] rfl rfl (take_ofW HT_.out HW_.out (by kernel_rfl)) (fun _ _ _ h => h) (Or.inl ⟨by rfl, ?_⟩) hHeld ?_ ?_
       rotate_left
       ·rintro w' ⟨s0, s1, s2, s3, s4⟩
        go_simp
        with_reducible rfl
       rotate_left
       ·simp only [Act.put, List.setIfInBounds_toArray, List.set_cons_zero, List.set_cons_succ, i64_w, i32_w]
        rfl
       refine take_ (i := 3) (N := some 16) (v := ?_) (a' := ?_) #[true, true, true, true, true, true, true, true, false, false, false, false, false, false, false] rfl rfl (take_ofW HT_.out HW_.out (by kernel_rfl)) (fun _ _ _ h => h) (Or.inl ⟨by rfl, ?_⟩) hHeld ?_ ?_
       rotate_left
       ·rintro w' ⟨s0, s1, s2, s3, s4⟩
        go_simp
        with_reducible rfl
       rotate_left
       ·simp only [Act.put, List.setIfInBounds_toArray, List.set_cons_zero, List.set_cons_succ, i64_w, i32_w]
        rfl
       refine pure_ (i := 8) (N := some 21) (v := ?_) (a' := ?_) #[true, true, true, true, true, true, true, true, true, false, false, false, false, false, false] rfl rfl (any_of HT_.out (by kernel_rfl)) (fun _ _ _ h => h) (Or.inl ⟨by rfl, ?_⟩) ?_ ?_
       rotate_left
       ·intro w'
        go_simp
        with_reducible rfl
       rotate_left
       ·simp only [Act.put, List.setIfInBounds_toArray, List.set_cons_zero, List.set_cons_succ, i64_w, i32_w]
        rfl
       refine take_ (i := 9) (N := some 22) (v := ?_) (a' := ?_) #[true, true, true, true, true, true, true, true, true, true, false, false, false, false, false] rfl rfl (take_ofW HT_.out HW_.out (by kernel_rfl)) (fun _ _ _ h => h) (Or.inl ⟨by rfl, ?_⟩) hHeld ?_ ?_
       rotate_left
       ·rintro w' ⟨s0, s1, s2, s3, s4⟩
        go_simp
        with_reducible rfl
       rotate_left
       ·simp only [Act.put, List.setIfInBounds_toArray, List.set_cons_zero, List.set_cons_succ, i64_w, i32_w]
        rfl
       refine one_ (i := 10) (N := some 23) #[true, true, true, true, true, true, true, true, true, true, true, false, false, false, false] rfl rfl (one_of HT_.out (by kernel_rfl)) (by decide) (fun K hK => ?_)
       refine goes_ Try.func88 (by kernel_rfl) rfl #[.agg #[.int .i64 ((rd_T88 l0_0 (ji8)).f0), .string ((rd_T88 l0_0 (ji8)).f1), .string ((rd_T88 l0_0 (ji8)).f2)]] (by rfl) rfl rfl (by (try simp only [List.map_toArray, List.map_cons, List.map_nil]); first | done | (simp only [hji8]; rfl) | rfl | (simp only [List.length_drop, List.length_take]; rfl)) ?_
       with_reducible refine (edit_Inverse.calls ((rd_T88 l0_0 (ji8)).f0) ((rd_T88 l0_0 (ji8)).f1) ((rd_T88 l0_0 (ji8)).f2) t110 t111 t112 _ A11.out).mono ?_
       rintro e w14 ⟨rfl, hb⟩
       refine ⟨_, rfl, ?_⟩
       have n0_ := rb_ HO_109000 hb
       have n1_ := bb_ BK106 hb
       have n2_ := bb_ BK107 hb
       have n3_ := bb_ BK108 hb
       have n4_ := bw_ HB hb
       clear HO_109000
       clear BK106
       clear BK107
       clear BK108
       clear HB
       have HO_109000 := n0_
       have BK106 := n1_
       have BK107 := n2_
       have BK108 := n3_
       have HB := n4_
       clear n0_ n1_ n2_ n3_ n4_
       (try clear hb)
       (try clear hb2)
       (try clear hk)
       (try clear hi)
       refine hK.out _ _ ⟨(blk_cell BK108.out 0).trans rfl, (blk_cell BK106.out 0).trans rfl, ((HB.out.cell (World.block_lt_of_cell? w _ hw109_0)).trans hw109_0), ((HB.out.cell (World.block_lt_of_cell? w _ hw109_1)).trans hw109_1), ((HB.out.cell (World.block_lt_of_cell? w _ hw109_2)).trans hw109_2)⟩ (fun hHeld => ?_)
       clear hK K
       refine norm_ (a' := ?_) ?_ ?_
       rotate_left
       ·show Act.put _ (some 23) _ = _
        simp only [Act.put, List.setIfInBounds_toArray, List.set_cons_zero, List.set_cons_succ, i64_w, i32_w]
        rfl
       refine one_ (i := 11) (N := some 24) #[true, true, true, true, true, true, true, true, true, true, true, true, false, false, false] rfl rfl (one_of HT_.out (by kernel_rfl)) (by decide) (fun K hK => ?_)
       refine value_ (w1 := ?_) (v := ?_) (by rfl) rfl ?_ ?_
       rotate_left 2
       ·go_simp
        constructor
        ·rfl
        ·rfl
       refine hK.out _ _ ⟨(blk_cell (bA BK108.out _) 0).trans rfl, (blk_cell (bA BK106.out _) 0).trans rfl, (World.cell?_alloc_lt _ _ _ (World.block_lt_of_cell? _ _ (((HB.out.cell (World.block_lt_of_cell? w _ hw109_0)).trans hw109_0)))).trans (((HB.out.cell (World.block_lt_of_cell? w _ hw109_0)).trans hw109_0)), (World.cell?_alloc_lt _ _ _ (World.block_lt_of_cell? _ _ (((HB.out.cell (World.block_lt_of_cell? w _ hw109_1)).trans hw109_1)))).trans (((HB.out.cell (World.block_lt_of_cell? w _ hw109_1)).trans hw109_1)), (World.cell?_alloc_lt _ _ _ (World.block_lt_of_cell? _ _ (((HB.out.cell (World.block_lt_of_cell? w _ hw109_2)).trans hw109_2)))).trans (((HB.out.cell (World.block_lt_of_cell? w _ hw109_2)).trans hw109_2))⟩ (fun hHeld => ?_)
       clear hK K
       refine norm_ (a' := ?_) ?_ ?_
       rotate_left
       ·show Act.put _ (some 24) _ = _
        simp only [Act.put, List.setIfInBounds_toArray, List.set_cons_zero, List.set_cons_succ, i64_w, i32_w]
        rfl
       refine one_ (i := 12) (N := some 25) #[true, true, true, true, true, true, true, true, true, true, true, true, true, false, false] rfl rfl (one_of HT_.out (by kernel_rfl)) (by decide) (fun K hK => ?_)
       refine Kd.R_append_step k88 (w0 := w) w.heap.size (by rfl) (.tmp 14) (.tmp 24) 24 88 (.agg #[(.int .i64 0), (.string ⟨#[]⟩), (.string ⟨#[]⟩)]) 40 rfl Try.underlying24 info88 rfl (by decide) (by omega) u109000 x109000_1 (⟨t110, t111, t112⟩ : S88) [.int .i64 t110, .string t111, .string t112] (fun _ => True) (fun _ => False) rfl rfl ?aP (fun _ hk => hk.elim) ?aF ?aO ?aB ?aS ?aL ?_
       (case aP => exact k88_mkM _ _ _ (⟨t110, t111, t112⟩ : S88))
       (case aB => exact (wk HB.out))
       (case aF => exact (fun _ _ => trivial))
       (case aO => exact (rk HO_109000.out))
       (case aS => exact (below_size (wk HB.out)))
       (case aL => have := LMc12.out; omega)
       intro v114 w15 ho hb hg hat
       rw [← Ny113.out] at ho
       have n0_ := aS_ (blk_grown (g := gb106) (o := .cells #[.slice (some ad109) l0_0.length c0_0] 38 (0, 0)) (bk BK106.out) hg (Kd.R_ne HO_109000.out BK106.out (by decide)))
       have n1_ := aS_ (blk_grown (g := gb107) (o := .cells #[.slice none 0 0] 38 (0, 0)) (bk BK107.out) hg (Kd.R_ne HO_109000.out BK107.out (by decide)))
       have n2_ := aS_ (blk_grown (g := gb108) (o := .cells #[u109000] 38 (0, 0)) (bk BK108.out) hg (Kd.R_ne HO_109000.out BK108.out (by decide)))
       have n3_ := aS_ (hb)
       have n4_ := aS_ (ho)
       clear BK106
       clear BK107
       clear BK108
       clear HB
       clear HO_109000
       have BK106 := n0_
       have BK107 := n1_
       have BK108 := n2_
       have HB := n3_
       have HO115 := n4_
       clear n0_ n1_ n2_ n3_ n4_
       clear ho hb hg hat
       obtain ⟨Ao16, co16, eo16⟩ := Kd.R_slice HO115.out
       (first | subst eo16 | (injection eo16 with f1_ f2_ f3_; have f4_ := f1_.symm; have f5_ := f3_.symm; clear f1_ f2_ f3_; subst f4_; subst f5_))
       refine hK.out _ _ ⟨(blk_cell BK108.out 0).trans rfl, (blk_cell BK106.out 0).trans rfl, ((HB.out.cell (World.block_lt_of_cell? w _ hw109_0)).trans hw109_0), ((HB.out.cell (World.block_lt_of_cell? w _ hw109_1)).trans hw109_1), ((HB.out.cell (World.block_lt_of_cell? w _ hw109_2)).trans hw109_2)⟩ (fun hHeld => ?_)
       clear hK K
       refine norm_ (a' := ?_) ?_ ?_
       rotate_left
       ·show Act.put _ (some 25) _ = _
        simp only [Act.put, List.setIfInBounds_toArray, List.set_cons_zero, List.set_cons_succ, i64_w, i32_w]
        rfl
       refine pure_ (i := 13) (N := some 26) (v := ?_) (a' := ?_) #[true, true, true, true, true, true, true, true, true, true, true, true, true, true, false] rfl rfl (any_of HT_.out (by kernel_rfl)) (fun _ _ _ h => h) (Or.inl ⟨by rfl, ?_⟩) ?_ ?_
       rotate_left
       ·intro w'
        go_simp
        with_reducible rfl
       rotate_left
       ·simp only [Act.put, List.setIfInBounds_toArray, List.set_cons_zero, List.set_cons_succ, i64_w, i32_w]
        rfl
       refine last_ (i := 14) (N := none) #[true, true, true, true, true, true, true, true, true, true, true, true, true, true, true] rfl rfl (one_of HT_.out (by kernel_rfl)) (by decide) (fun K hK => ?_)
       have hs17 : w15.cell? ⟨gb108, 0, none⟩ = some (u109000) := (blk_cell BK108.out 0).trans rfl
       have hfs17 := blk_frozen BK108.out 0
       have hns17_0 := NB106_108.out
       have hns17_1 := NB107_108.out
       have hms17_0 := NB108_106.out
       have hms17_1 := NB108_107.out
       refine skip_ (w1 := ?_) (by rfl) rfl ?_ ?_
       rotate_left
       ·go_simp
        rfl
       refine hK.out _ _ ?_
       clear hK K
       refine done_ (done_of HT_.out (by kernel_rfl)) ?_
       try go_wp2
       go_roundg k1
       case measure => have := HK1.out; omega
       case rel => exact ⟨(wrap64 (x10_1 + 1)), (y113), (.slice Ao16 y113.length co16), t0, H', ⟨t2 HK1⟩, ⟨by (with_reducible repeat (first | apply Kd.R_alloc | apply Kd.R_drewN | apply Kd.R_drew)); exact Kd.R_mono (Kd.R_far (p := ⟨gb108, 0, none⟩) (Kd.R_types HO115.out BK108.out (by decide)) (fun _ hk => hk.2) (.slice Ao16 y113.length co16)) (fun _ hk => trivial)⟩, ⟨bq BK106.out⟩, ⟨bq BK107.out⟩, ⟨bp BK108.out⟩, ⟨wk HB.out⟩⟩
      ·rw [if_neg c12] at H
       exact absurd H (by simp)
     ·rw [if_neg c10] at H
      exact absurd H (by simp)
    ·rw [if_neg c9] at H
     exact absurd H (by simp)
   ·rw [if_neg c7] at H
    have c7b0 := decide_eq_false c7
    clear c7
    obtain rfl := Option.some.inj H
    have hnb18 := NB108_106.out
    have hnc18 := NB106_108.out
    have hnb19 := NB108_107.out
    have hnc19 := NB107_108.out
    obtain ⟨hcz20_0, hfz20_0⟩ := c1_ BK108.out
    obtain ⟨Ao21, co21, eo21⟩ := Kd.R_slice HO_109000.out
    subst eo21
    have hnb22 := NB107_106.out
    have hnc22 := NB106_107.out
    obtain ⟨hcz23_0, hfz23_0⟩ := c1_ BK107.out
    go_wp2
    refine bodyPost_ret (results_cell_row rfl _ _ gb107 38 #[.slice Ao21 x109000_1.length co21] (0, 0) _ rfl (bp BK107.out) Try.underlying38 rfl (by kernel_rfl)) rfl ?_
    exact ⟨_, t1, by (with_reducible repeat (first | apply Kd.R_alloc | apply Kd.R_drewN | apply Kd.R_drew)); exact Kd.R_mono (Kd.R_far (p := ⟨gb107, 0, none⟩) (Kd.R_types HO_109000.out BK107.out (by decide)) (fun _ hk => hk.2) (.slice Ao21 x109000_1.length co21)) (fun _ hk => trivial), wk HB.out⟩
/-! ### utf_goesOn: function 91 -/
def utf_goesOn.f (a0 : Int) : Option (Bool) := some ((Go.bits .and .u8 a0 192) == 128)
set_option maxHeartbeats 8000000 in
set_option maxRecDepth 100000 in
theorem utf_goesOn.calls (a0 : Int) (r : Bool) (w : World) (h : utf_goesOn.f a0 = some r) :
  Calls Try.prog 91 #[.int .u8 a0] w fun e w' => e = .returned (.bool r) ∧ Drawn0 w w' := by
 have H : (some ((Go.bits .and .u8 a0 192) == 128)) = some r := h
 clear h
 obtain rfl := Option.some.inj H
 go_enter Try.func91, Try.ntmps91
 go_wp2
 go_ret
 exact ⟨by first | rfl | (simp; done) | (simp [*]; done), by repeat (first | exact Drawn0.refl _ | apply Drawn0.step)⟩
/-! ### utf_begins: function 98 -/
def utf_begins.f (a0 : Int) : Option (Int × Int) := if a0 < 128 then (some (1, wrap32 (a0))) else (if a0 < 192 then (some (0, 0)) else (if a0 < 224 then (some (2, wrap32 (Go.bits .andNot .u8 a0 192))) else (if a0 < 240 then (some (3, wrap32 (Go.bits .andNot .u8 a0 224))) else (if a0 < 248 then (some (4, wrap32 (Go.bits .andNot .u8 a0 240))) else (some (0, 0))))))
set_option maxHeartbeats 8000000 in
set_option maxRecDepth 100000 in
theorem utf_begins.calls (a0 : Int) (r1 : Int) (r2 : Int) (w : World) (h : utf_begins.f a0 = some (r1, r2)) :
  Calls Try.prog 98 #[.int .u8 a0] w fun e w' => e = .returned (.tuple #[.int .i64 r1, .int .i32 r2]) ∧ Drawn0 w w' := by
 have H : (if a0 < 128 then (some (1, wrap32 (a0))) else (if a0 < 192 then (some (0, 0)) else (if a0 < 224 then (some (2, wrap32 (Go.bits .andNot .u8 a0 192))) else (if a0 < 240 then (some (3, wrap32 (Go.bits .andNot .u8 a0 224))) else (if a0 < 248 then (some (4, wrap32 (Go.bits .andNot .u8 a0 240))) else (some (0, 0))))))) = some (r1, r2) := h
 clear h
 by_cases c2 : a0 < 128
 ·rw [if_pos c2] at H
  have c2b0 := decide_eq_true c2
  clear c2
  simp only [Option.some.injEq, Prod.mk.injEq] at H
  obtain ⟨rfl, rfl⟩ := H
  go_enter Try.func98, Try.ntmps98
  go_wp2
  go_ret2
  exact ⟨by first | rfl | (simp; done) | (simp [*]; done), by repeat (first | exact Drawn0.refl _ | apply Drawn0.step)⟩
 ·rw [if_neg c2] at H
  have c2b0 := decide_eq_false c2
  clear c2
  by_cases c3 : a0 < 192
  ·rw [if_pos c3] at H
   have c3b0 := decide_eq_true c3
   clear c3
   simp only [Option.some.injEq, Prod.mk.injEq] at H
   obtain ⟨rfl, rfl⟩ := H
   go_enter Try.func98, Try.ntmps98
   go_wp2
   go_ret2
   exact ⟨by first | rfl | (simp; done) | (simp [*]; done), by repeat (first | exact Drawn0.refl _ | apply Drawn0.step)⟩
  ·rw [if_neg c3] at H
   have c3b0 := decide_eq_false c3
   clear c3
   by_cases c4 : a0 < 224
   ·rw [if_pos c4] at H
    have c4b0 := decide_eq_true c4
    clear c4
    simp only [Option.some.injEq, Prod.mk.injEq] at H
    obtain ⟨rfl, rfl⟩ := H
    go_enter Try.func98, Try.ntmps98
    go_wp2
    go_ret2
    exact ⟨by first | rfl | (simp; done) | (simp [*]; done), by repeat (first | exact Drawn0.refl _ | apply Drawn0.step)⟩
   ·rw [if_neg c4] at H
    have c4b0 := decide_eq_false c4
    clear c4
    by_cases c5 : a0 < 240
    ·rw [if_pos c5] at H
     have c5b0 := decide_eq_true c5
     clear c5
     simp only [Option.some.injEq, Prod.mk.injEq] at H
     obtain ⟨rfl, rfl⟩ := H
     go_enter Try.func98, Try.ntmps98
     go_wp2
     go_ret2
     exact ⟨by first | rfl | (simp; done) | (simp [*]; done), by repeat (first | exact Drawn0.refl _ | apply Drawn0.step)⟩
    ·rw [if_neg c5] at H
     have c5b0 := decide_eq_false c5
     clear c5
     by_cases c6 : a0 < 248
     ·rw [if_pos c6] at H
      have c6b0 := decide_eq_true c6
      clear c6
      simp only [Option.some.injEq, Prod.mk.injEq] at H
      obtain ⟨rfl, rfl⟩ := H
      go_enter Try.func98, Try.ntmps98
      go_wp2
      go_ret2
      exact ⟨by first | rfl | (simp; done) | (simp [*]; done), by repeat (first | exact Drawn0.refl _ | apply Drawn0.step)⟩
     ·rw [if_neg c6] at H
      have c6b0 := decide_eq_false c6
      clear c6
      simp only [Option.some.injEq, Prod.mk.injEq] at H
      obtain ⟨rfl, rfl⟩ := H
      go_enter Try.func98, Try.ntmps98
      go_wp2
      go_ret2
      exact ⟨by first | rfl | (simp; done) | (simp [*]; done), by repeat (first | exact Drawn0.refl _ | apply Drawn0.step)⟩
/-! ### utf_isRune: function 99 -/
def utf_isRune.f (a0 : Int) : Option (Bool) := if a0 ≥ 0 then (if a0 ≤ 1114111 then (if a0 < 55296 then (some true) else (some (decide (a0 > 57343)))) else (some false)) else (some false)
set_option maxHeartbeats 8000000 in
set_option maxRecDepth 100000 in
theorem utf_isRune.calls (a0 : Int) (r : Bool) (w : World) (h : utf_isRune.f a0 = some r) :
  Calls Try.prog 99 #[.int .i32 a0] w fun e w' => e = .returned (.bool r) ∧ Drawn0 w w' := by
 have H : (if a0 ≥ 0 then (if a0 ≤ 1114111 then (if a0 < 55296 then (some true) else (some (decide (a0 > 57343)))) else (some false)) else (some false)) = some r := h
 clear h
 by_cases c2 : a0 ≥ 0
 ·rw [if_pos c2] at H
  have c2b0 := decide_eq_true c2
  clear c2
  by_cases c3 : a0 ≤ 1114111
  ·rw [if_pos c3] at H
   have c3b0 := decide_eq_true c3
   clear c3
   by_cases c4 : a0 < 55296
   ·rw [if_pos c4] at H
    have c4b0 := decide_eq_true c4
    clear c4
    obtain rfl := Option.some.inj H
    go_enter Try.func99, Try.ntmps99
    go_wp2
    go_ret
    exact ⟨by first | rfl | (simp; done) | (simp [*]; done), by repeat (first | exact Drawn0.refl _ | apply Drawn0.step)⟩
   ·rw [if_neg c4] at H
    have c4b0 := decide_eq_false c4
    clear c4
    obtain rfl := Option.some.inj H
    go_enter Try.func99, Try.ntmps99
    go_wp2
    go_ret
    exact ⟨by first | rfl | (simp; done) | (simp [*]; done), by repeat (first | exact Drawn0.refl _ | apply Drawn0.step)⟩
  ·rw [if_neg c3] at H
   have c3b0 := decide_eq_false c3
   clear c3
   obtain rfl := Option.some.inj H
   go_enter Try.func99, Try.ntmps99
   go_wp2
   go_ret
   exact ⟨by first | rfl | (simp; done) | (simp [*]; done), by repeat (first | exact Drawn0.refl _ | apply Drawn0.step)⟩
 ·rw [if_neg c2] at H
  have c2b0 := decide_eq_false c2
  clear c2
  obtain rfl := Option.some.inj H
  go_enter Try.func99, Try.ntmps99
  go_wp2
  go_ret
  exact ⟨by first | rfl | (simp; done) | (simp [*]; done), by repeat (first | exact Drawn0.refl _ | apply Drawn0.step)⟩
/-! ### utf_width: function 100 -/
def utf_width.f (a0 : Int) : Option (Int) := if a0 < 128 then (some 1) else (if a0 < 2048 then (some 2) else (if a0 < 65536 then (some 3) else (some 4)))
set_option maxHeartbeats 8000000 in
set_option maxRecDepth 100000 in
theorem utf_width.calls (a0 : Int) (r : Int) (w : World) (h : utf_width.f a0 = some r) :
  Calls Try.prog 100 #[.int .i32 a0] w fun e w' => e = .returned (.int .i64 r) ∧ Drawn0 w w' := by
 have H : (if a0 < 128 then (some 1) else (if a0 < 2048 then (some 2) else (if a0 < 65536 then (some 3) else (some 4)))) = some r := h
 clear h
 by_cases c2 : a0 < 128
 ·rw [if_pos c2] at H
  have c2b0 := decide_eq_true c2
  clear c2
  obtain rfl := Option.some.inj H
  go_enter Try.func100, Try.ntmps100
  go_wp2
  go_ret
  exact ⟨by first | rfl | (simp; done) | (simp [*]; done), by repeat (first | exact Drawn0.refl _ | apply Drawn0.step)⟩
 ·rw [if_neg c2] at H
  have c2b0 := decide_eq_false c2
  clear c2
  by_cases c3 : a0 < 2048
  ·rw [if_pos c3] at H
   have c3b0 := decide_eq_true c3
   clear c3
   obtain rfl := Option.some.inj H
   go_enter Try.func100, Try.ntmps100
   go_wp2
   go_ret
   exact ⟨by first | rfl | (simp; done) | (simp [*]; done), by repeat (first | exact Drawn0.refl _ | apply Drawn0.step)⟩
  ·rw [if_neg c3] at H
   have c3b0 := decide_eq_false c3
   clear c3
   by_cases c4 : a0 < 65536
   ·rw [if_pos c4] at H
    have c4b0 := decide_eq_true c4
    clear c4
    obtain rfl := Option.some.inj H
    go_enter Try.func100, Try.ntmps100
    go_wp2
    go_ret
    exact ⟨by first | rfl | (simp; done) | (simp [*]; done), by repeat (first | exact Drawn0.refl _ | apply Drawn0.step)⟩
   ·rw [if_neg c4] at H
    have c4b0 := decide_eq_false c4
    clear c4
    obtain rfl := Option.some.inj H
    go_enter Try.func100, Try.ntmps100
    go_wp2
    go_ret
    exact ⟨by first | rfl | (simp; done) | (simp [*]; done), by repeat (first | exact Drawn0.refl _ | apply Drawn0.step)⟩
end Go.Proofs.Ytnndanfghlnpfaa.P
