import Derived.Test.YtnndanfghlnpfaaPx0
import Derived.Test.YtnndanfghlnpfaaPx21
namespace Go.Proofs.Ytnndanfghlnpfaa.P
open Go.RowKit Go.Proofs.YtnndanfghlnpfaaW.PrintWords Go.Proofs.YtnndanfghlnpfaaW.PrintLast Go.Proofs.YtnndanfghlnpfaaW.PrintMore
attribute [local go_sem] max2_int min2_int max_two min_two max_three min_three max_four min_four   -- for this text's walks alone
set_option linter.unusedVariables false
set_option linter.unusedSimpArgs false
/-! ### sr28stack: function 31 -/
def sr28stack.l0 : Nat → List (S38) → Int → Int → ByteArray → Int → Int → Option (ByteArray × Int × Int × (List (S38)))
 | 0, _, _, _, _, _, _ => none
 | k + 1, x4, x5, x6, x382000, x382001, x382002 => if x6 < x5 then (if x382002 = 0 then ((sr28list.f k x382000 x382001 x382002).bind fun bt388 => (if x4.length < 5864062014805 then (sr28stack.l0 k (x4 ++ [(⟨bt388.2.2.2⟩ : S38)]) x5 (wrap64 (x6 + 1)) bt388.1 bt388.2.1 bt388.2.2.1) else (none))) else (some (x382000, x382001, x382002, x4))) else (some (x382000, x382001, x382002, x4))
def sr28stack.f (k : Nat) (a0_0 : ByteArray) (a0_1 : Int) (a0_2 : Int) : Option (ByteArray × Int × Int × (List (S38))) := (sr28num.f k a0_0 a0_1 a0_2 2).bind fun bt383 => (sr28stack.l0 k ([] : List (S38)) bt383.2.2.2 0 bt383.1 bt383.2.1 bt383.2.2.1)
set_option maxHeartbeats 8000000 in
set_option maxRecDepth 100000 in
theorem sr28stack.calls (k : Nat) (a0_0 : ByteArray) (a0_1 : Int) (a0_2 : Int) (r1 : ByteArray) (r2 : Int) (r3 : Int) (r4 : List (S38)) (w : World) (h : sr28stack.f k a0_0 a0_1 a0_2 = some (r1, r2, r3, r4)) :
  Calls Try.prog 31 #[.agg #[.string a0_0, .int .i64 a0_1, .int .i64 a0_2]] w fun e w' => ∃ v3_ : Value, e = .returned (.tuple #[.agg #[.string r1, .int .i64 r2, .int .i64 r3], v3_]) ∧ Kd.S k38 38 w' w.heap.size (fun _ => True) v3_ r4 ∧ Below w.heap.size w w' := by
 have hu64 := Try.underlying64
 have hu38 := Try.underlying38
 have HB := aS_ (Below.refl w.heap.size w)
 have H : ((sr28num.f k a0_0 a0_1 a0_2 2).bind fun bt383 => (sr28stack.l0 k ([] : List (S38)) bt383.2.2.2 0 bt383.1 bt383.2.1 bt383.2.2.1)) = some (r1, r2, r3, r4) := h
 clear h
 replace H := Option.bind_eq_some_iff.mp H
 obtain ⟨⟨t383, t384, t385, t386⟩, A20, H⟩ := H
 try dsimp only at H
 have A2 := aS_ A20
 clear A20
 have H' := aS_ H
 clear H
 go_enter Try.func31, Try.ntmps31
 go_wp2_with (first | (refine bx_ 1 #[.string a0_0, .int .i64 a0_1, .int .i64 a0_2] 64 ?_; intro gb381 hg w3 hbox hb; have BK381 := aS_ (hbox); have GW381 := ge_ hg (wk HB.out); have GE381 := ge_ hg (wk HB.out); replace HB := bw_ HB hb; clear hb hbox hg) | (refine bx_ 2 #[.string (⟨#[]⟩ : ByteArray), .int .i64 0, .int .i64 0] 64 ?_; intro gb382 hg w4 hbox hb; have BK382 := aS_ (hbox); have GW382 := ge_ hg (wk HB.out); have GE382 := ge_ hg (wk HB.out); replace HB := bw_ HB hb; have NB381_382 := nq_ hg (bk BK381.out); replace BK381 := bb_ BK381 hb; have NB382_381 := nr_ NB381_382; clear hb hbox hg; have hnb5 := NB381_382.out; have hnc5 := NB382_381.out; obtain ⟨hcz6_0, hcz6_1, hcz6_2, hfz6_0, hfz6_1, hfz6_2⟩ := c3_ BK381.out) | (refine cl_ (some 10) Try.func30 #[.agg #[.string a0_0, .int .i64 a0_1, .int .i64 a0_2], .int .i64 2] ?_; (with_reducible refine (sr28num.calls k a0_0 a0_1 a0_2 2 t383 t384 t385 t386 _ A2.out).mono ?_); rintro e w7 ⟨rfl, hb⟩; refine ⟨_, rfl, ?_⟩; replace BK381 := bb_ BK381 hb; replace BK382 := bb_ BK382 hb; replace HB := bw_ HB hb; try clear hb; obtain ⟨hcz8_0, hcz8_1, hcz8_2, hfz8_0, hfz8_1, hfz8_2⟩ := c3_ BK381.out))
 go_loopg [4, 6] k (fun kq v4 v6 w' => ∃ (x4_1 : List (S38)) (x6_1 : Int) (x382000_1 : ByteArray) (x382001_1 : Int) (x382002_1 : Int), v6 = .int .i64 x6_1 ∧ Aside0 (sr28stack.l0 kq x4_1 t386 x6_1 x382000_1 x382001_1 x382002_1 = some (r1, r2, r3, r4)) ∧ Aside0 (kq ≤ k) ∧ Aside0 (Kd.S k38 38 w' w.heap.size (fun _ => True) v4 x4_1) ∧ Aside0 (w'.heap[gb381]? = some (.cells #[.string x382000_1, .int .i64 x382001_1, .int .i64 x382002_1] 64 (0, 0))) ∧ Aside0 (w'.heap[gb382]? = some (.cells #[.string (⟨#[]⟩ : ByteArray), .int .i64 0, .int .i64 0] 64 (0, 0))) ∧ Aside0 (Below w.heap.size w w'))
 case atStart => exact ⟨(([] : List (S38))), (0), (t383), (t384), (t385), t0, H', ⟨Nat.le_refl _⟩, ⟨by first | exact Kd.S_nil _ _ _ _ _ | exact Kd.N_nil _ _ _ _ _ | exact Kd.V_nil _ _ _ _ _ | exact Kd.Q_nil _ _ _ _ _ | exact Kd.R_nil _ _ _ _ _⟩, ⟨bp BK381.out⟩, ⟨bq BK382.out⟩, ⟨wk HB.out⟩⟩
 case round =>
  clear H'
  try clear p2
  try clear c3
  try clear c5
  try clear hcz6_0 hcz6_1 hcz6_2 hcz8_0 hcz8_1 hcz8_2 hfz6_0 hfz6_1 hfz6_2 hfz8_0 hfz8_1 hfz8_2
  obtain ⟨x4_1, x6_1, x382000_1, x382001_1, x382002_1, rfl, HA, HK1, HO_4, BK381, BK382, HB⟩ := hrel
  cases gk with
  | zero => exact absurd HA.out (by simp [sr28stack.l0])
  | succ k1 =>
   have H := HA.out
   clear HA
   simp only [sr28stack.l0] at H
   by_cases c9 : x6_1 < t386
   ·rw [if_pos c9] at H
    have c9b0 := decide_eq_true c9
    clear c9
    by_cases c10 : x382002_1 = 0
    ·rw [if_pos c10] at H
     have c10b0 := beq_iff_eq.mpr c10
     have c10b1 := bne_eq_false_iff_eq.mpr c10
     clear c10
     replace H := Option.bind_eq_some_iff.mp H
     obtain ⟨⟨t388, t389, t390, t391⟩, A110, H⟩ := H
     try dsimp only at H
     have A11 := aS_ A110
     clear A110
     by_cases c12 : x4_1.length < 5864062014805
     ·rw [if_pos c12] at H
      have LMc12 := aS_ c12
      clear c12
      obtain ⟨y394, hy394⟩ : ∃ y_ : List (S38), y_ = (x4_1 ++ [(⟨t391⟩ : S38)]) := ⟨_, rfl⟩
      replace H : (sr28stack.l0 k1 y394 t386 (wrap64 (x6_1 + 1)) t388 t389 t390) = some (r1, r2, r3, r4) := by first | (rw [hy394]; with_reducible exact H) | (have H2_ := (Option.bind_some _ _).symm.trans H; rw [hy394]; with_reducible exact H2_) | (have H2_ := (Option.bind_some _ _).symm.trans H; with_reducible exact H2_) | with_reducible exact H | (rw [hy394]; exact H) | exact H
      have Ny394 := aS_ hy394
      clear hy394
      have H' := aS_ H
      clear H
      have hnb13 := NB381_382.out
      have hnc13 := NB382_381.out
      obtain ⟨hcz14_0, hcz14_1, hcz14_2, hfz14_0, hfz14_1, hfz14_2⟩ := c3_ BK381.out
      go_wp2_with (first | (refine bx_ 7 #[.slice none 0 0] 38 ?_; intro gb387 hg w15 hbox hb; replace HO_4 := aS_ (Kd.S_below (Kd.S_elderB (sk HO_4.out) gb387 (Nat.le_of_eq hg.symm)) hb); have BK387 := aS_ (hbox); have GW387 := ge_ hg (wk HB.out); have GE387 := ge_ hg (wk HB.out); replace HB := bw_ HB hb; have NB381_387 := nq_ hg (bk BK381.out); replace BK381 := bb_ BK381 hb; have NB387_381 := nr_ NB381_387; have NB382_387 := nq_ hg (bk BK382.out); replace BK382 := bb_ BK382 hb; have NB387_382 := nr_ NB382_387; clear hb hbox hg; have hnb16 := NB381_387.out; have hnc16 := NB387_381.out; obtain ⟨hcz17_0, hcz17_1, hcz17_2, hfz17_0, hfz17_1, hfz17_2⟩ := c3_ BK381.out) | (refine cl_ (some 25) Try.func32 #[.agg #[.string x382000_1, .int .i64 x382001_1, .int .i64 x382002_1]] ?_; (with_reducible refine (sr28list.calls k1 x382000_1 x382001_1 x382002_1 t388 t389 t390 t391 _ A11.out).mono ?_); rintro e w18 ⟨v392, rfl, ho0, hb⟩; refine ⟨_, rfl, ?_⟩; replace HO_4 := aS_ (Kd.S_elder' (sk HO_4.out) (Kd.R_base ho0) hb); have HO393 := aS_ (Kd.R_lower ho0 (below_size (wk HB.out))); replace BK381 := bb_ BK381 hb; replace BK382 := bb_ BK382 hb; replace BK387 := bb_ BK387 hb; replace HB := bw_ HB hb; try clear hb; (try clear ho0); obtain ⟨hcz19_0, hcz19_1, hcz19_2, hfz19_0, hfz19_1, hfz19_2⟩ := c3_ BK381.out) | ((with_reducible refine gate_store (t := 64) (p := 1) rfl ?_); refine store_event (t := 64) (p := 1) (v := ?vo_w20) (w1 := (((w18.setCell ⟨gb381, 0, none⟩ (.string t388)).setCell ⟨gb381, 1, none⟩ (.int .i64 t389)).setCell ⟨gb381, 2, none⟩ (.int .i64 t390))) ?hg ?ho ?hn ?hr ?_; (case ho => rfl); (case hg => rfl); (case hn => rfl); (case hr => first | (go_simp; done) | (go_simp; rfl)); intro w20 hw; have n0_ : Aside0 (Kd.S k38 38 w20 w.heap.size (fun k_ => some k_ ≠ (v392 : Value).ownBlock ∧ k_ ≠ gb387) u4 x4_1) := ⟨(by rw [hw]; exact (by (with_reducible repeat (first | apply Kd.S_alloc | apply Kd.S_drewN | apply Kd.S_drew)); exact Kd.S_mono (Kd.S_far (p := ⟨gb381, 2, none⟩) (Kd.S_far (p := ⟨gb381, 1, none⟩) (Kd.S_far (p := ⟨gb381, 0, none⟩) (Kd.S_types HO_4.out BK381.out (by decide)) (fun _ hk => hk.2) (.string t388)) (fun _ hk => hk.2) (.int .i64 t389)) (fun _ hk => hk.2) (.int .i64 t390)) (fun _ hk => ⟨hk.1.2, hk.1.1.2⟩)))⟩; have n1_ : Aside0 (Kd.R k88 88 w20 w.heap.size (fun _ => True) v392 t391) := ⟨(by rw [hw]; exact (by (with_reducible repeat (first | apply Kd.R_alloc | apply Kd.R_drewN | apply Kd.R_drew)); exact Kd.R_mono (Kd.R_far (p := ⟨gb381, 2, none⟩) (Kd.R_far (p := ⟨gb381, 1, none⟩) (Kd.R_far (p := ⟨gb381, 0, none⟩) (Kd.R_types HO393.out BK381.out (by decide)) (fun _ hk => hk.2) (.string t388)) (fun _ hk => hk.2) (.int .i64 t389)) (fun _ hk => hk.2) (.int .i64 t390)) (fun _ hk => trivial)))⟩; have n2_ : Aside0 (w20.heap[gb381]? = some (.cells #[.string t388, .int .i64 t389, .int .i64 t390] 64 (0, 0))) := ⟨(by rw [hw]; exact (bp BK381.out))⟩; have n3_ : Aside0 (w20.heap[gb382]? = some (.cells #[.string (⟨#[]⟩ : ByteArray), .int .i64 0, .int .i64 0] 64 (0, 0))) := ⟨(by rw [hw]; exact (bq BK382.out))⟩; have n4_ : Aside0 (w20.heap[gb387]? = some (.cells #[.slice none 0 0] 38 (0, 0))) := ⟨(by rw [hw]; exact (bq BK387.out))⟩; have n5_ : Aside0 (Below w.heap.size w w20) := ⟨(by rw [hw]; exact (wk HB.out))⟩; clear hw; clear HO_4; clear HO393; clear BK381; clear BK382; clear BK387; clear HB; have HO_4 := n0_; have HO393 := n1_; have BK381 := n2_; have BK382 := n3_; have BK387 := n4_; have HB := n5_; clear n0_ n1_ n2_ n3_ n4_ n5_; obtain ⟨Ao21, co21, eo21⟩ := Kd.R_slice HO393.out; subst eo21; have hnb22 := NB387_382.out; have hnc22 := NB382_387.out; obtain ⟨hcz23_0, hfz23_0⟩ := c1_ BK387.out) | ((with_reducible refine gate_store (t := 24) (p := 28) rfl ?_); refine store_event (t := 24) (p := 28) (v := ?vo_w24) (w1 := (w20.setCell ⟨gb387, 0, none⟩ (.slice Ao21 t391.length co21))) ?hg ?ho ?hn ?hr ?_; (case ho => rfl); (case hg => rfl); (case hn => rfl); (case hr => first | (go_simp; done) | (go_simp; rfl)); intro w24 hw; have n0_ : Aside0 (Kd.S k38 38 w24 w.heap.size (fun k_ => some k_ ≠ (.slice Ao21 t391.length co21 : Value).ownBlock ∧ k_ ≠ gb387) u4 x4_1) := ⟨(by rw [hw]; exact (by (with_reducible repeat (first | apply Kd.S_alloc | apply Kd.S_drewN | apply Kd.S_drew)); exact Kd.S_mono (Kd.S_far (p := ⟨gb387, 0, none⟩) (Kd.S_mono HO_4.out (fun k_ hk => (⟨hk, hk.2⟩ : _ ∧ k_ ≠ gb387))) (fun _ hk => hk.2) (.slice Ao21 t391.length co21)) (fun _ hk => ⟨hk.1.1, hk.1.2⟩)))⟩; have n1_ : Aside0 (Kd.R k88 88 w24 w.heap.size (fun _ => True) (.slice Ao21 t391.length co21) t391) := ⟨(by rw [hw]; exact (by (with_reducible repeat (first | apply Kd.R_alloc | apply Kd.R_drewN | apply Kd.R_drew)); exact Kd.R_mono (Kd.R_far (p := ⟨gb387, 0, none⟩) (Kd.R_types HO393.out BK387.out (by decide)) (fun _ hk => hk.2) (.slice Ao21 t391.length co21)) (fun _ hk => trivial)))⟩; have n2_ : Aside0 (w24.heap[gb381]? = some (.cells #[.string t388, .int .i64 t389, .int .i64 t390] 64 (0, 0))) := ⟨(by rw [hw]; exact (bq BK381.out))⟩; have n3_ : Aside0 (w24.heap[gb382]? = some (.cells #[.string (⟨#[]⟩ : ByteArray), .int .i64 0, .int .i64 0] 64 (0, 0))) := ⟨(by rw [hw]; exact (bq BK382.out))⟩; have n4_ : Aside0 (w24.heap[gb387]? = some (.cells #[.slice Ao21 t391.length co21] 38 (0, 0))) := ⟨(by rw [hw]; exact (bp BK387.out))⟩; have n5_ : Aside0 (Below w.heap.size w w24) := ⟨(by rw [hw]; exact (wk HB.out))⟩; clear hw; clear HO_4; clear HO393; clear BK381; clear BK382; clear BK387; clear HB; have HO_4 := n0_; have HO393 := n1_; have BK381 := n2_; have BK382 := n3_; have BK387 := n4_; have HB := n5_; clear n0_ n1_ n2_ n3_ n4_ n5_; obtain ⟨hcz25_0, hfz25_0⟩ := c1_ BK387.out) | ((with_reducible refine gate_builtin (b := .append) (xs := #[.tmp 29, .tmp 31]) rfl ?_); at_builtin; refine Kd.S_append k38 (w0 := w) w.heap.size rfl (.tmp 29) (.tmp 31) 23 38 (.agg #[(.slice none 0 0)]) 24 rfl Try.underlying23 info38 rfl (by decide) (by omega) u4 x4_1 (⟨t391⟩ : S38) [.slice Ao21 t391.length co21] (fun k_ => k_ ≠ gb387) (fun k_ => some k_ = (.slice Ao21 t391.length co21 : Value).ownBlock) rfl rfl ?aP (fun k_ hk_ => ((Kd.R_mono (ok' := fun k_ => ((fun k_ => k_ ≠ gb387)) k_ ∧ some k_ ≠ (u4 : Value).ownBlock) (Kd.R_types (Kd.R_apart' (HO393.out) (Kd.S_typed HO_4.out) (by decide)) BK387.out (by decide)) (fun k_ hk => ⟨hk.2, hk.1.2⟩))).1 k_ hk_.symm) ?aF ?aO ?aB ?aS ?aL ?_; (case aP => exact k38_mkM _ _ _ (⟨t391⟩ : S38) (Kd.R_mono (Kd.R_tight rfl (Kd.R_mono (ok' := fun k_ => ((fun k_ => k_ ≠ gb387)) k_ ∧ some k_ ≠ (u4 : Value).ownBlock) (Kd.R_types (Kd.R_apart' (HO393.out) (Kd.S_typed HO_4.out) (by decide)) BK387.out (by decide)) (fun k_ hk => ⟨hk.2, hk.1.2⟩))) (fun _ h_ => h_))); (case aB => exact (wk HB.out)); (case aF => exact (fun k_ hk => Kd.freshB (g := gb387) (o := .cells #[.slice Ao21 t391.length co21] 38 (0, 0)) (bk BK387.out) k_ hk)); (case aO => exact (by (with_reducible repeat (first | apply Kd.S_alloc | apply Kd.S_drewN | apply Kd.S_drew)); exact Kd.S_mono HO_4.out (fun k_ hk => ⟨hk.2, fun e_ => hk.1 e_⟩))); (case aS => exact (below_size (wk HB.out))); (case aL => have := LMc12.out; omega); intro v395 w26 ho hb hg hat; rw [← Ny394.out] at ho; have n0_ := aS_ (blk_grown (g := gb381) (o := .cells #[.string t388, .int .i64 t389, .int .i64 t390] 64 (0, 0)) (bk BK381.out) hg (Kd.S_ne HO_4.out BK381.out (by decide))); have n1_ := aS_ (blk_grown (g := gb382) (o := .cells #[.string (⟨#[]⟩ : ByteArray), .int .i64 0, .int .i64 0] 64 (0, 0)) (bk BK382.out) hg (Kd.S_ne HO_4.out BK382.out (by decide))); have n2_ := aS_ (blk_grown (g := gb387) (o := .cells #[.slice Ao21 t391.length co21] 38 (0, 0)) (bk BK387.out) hg (Kd.S_away HO_4.out (fun _ hk => hk.2))); have n3_ := aS_ (hb); have n4_ := aS_ (ho); clear BK381; clear BK382; clear BK387; clear HB; clear HO_4; clear HO393; have BK381 := n0_; have BK382 := n1_; have BK387 := n2_; have HB := n3_; have HO396 := n4_; clear n0_ n1_ n2_ n3_ n4_; clear ho hb hg hat))
      go_roundg k1
      case measure => have := HK1.out; omega
      case rel => exact ⟨(y394), (wrap64 (x6_1 + 1)), (t388), (t389), (t390), t0, H', ⟨t2 HK1⟩, ⟨by (with_reducible repeat (first | apply Kd.S_alloc | apply Kd.S_drewN | apply Kd.S_drew)); exact Kd.S_mono HO396.out (fun _ hk => trivial)⟩, ⟨bq BK381.out⟩, ⟨bq BK382.out⟩, ⟨wk HB.out⟩⟩
     ·rw [if_neg c12] at H
      exact absurd H (by simp)
    ·rw [if_neg c10] at H
     have c10b0 := beq_eq_false_iff_ne.mpr c10
     have c10b1 := bne_iff_ne.mpr c10
     simp only [Option.some.injEq, Prod.mk.injEq] at H
     obtain ⟨rfl, rfl, rfl, rfl⟩ := H
     have hnb27 := NB381_382.out
     have hnc27 := NB382_381.out
     obtain ⟨hcz28_0, hcz28_1, hcz28_2, hfz28_0, hfz28_1, hfz28_2⟩ := c3_ BK381.out
     obtain ⟨hcz29_0, hcz29_1, hcz29_2, hfz29_0, hfz29_1, hfz29_2⟩ := c3_ BK382.out
     go_wp2
     refine bodyPost_ret (results_ct rfl _ _ gb382 64 #[.string x382000_1, .int .i64 x382001_1, .int .i64 x382002_1] (0, 0) _ rfl (bp BK382.out) Try.underlying64 rfl (by kernel_rfl)) rfl ?_
     exact ⟨_, t1, by (with_reducible repeat (first | apply Kd.S_alloc | apply Kd.S_drewN | apply Kd.S_drew)); exact Kd.S_mono (Kd.S_far (p := ⟨gb382, 2, none⟩) (Kd.S_far (p := ⟨gb382, 1, none⟩) (Kd.S_far (p := ⟨gb382, 0, none⟩) (Kd.S_types HO_4.out BK382.out (by decide)) (fun _ hk => hk.2) (.string x382000_1)) (fun _ hk => hk.2) (.int .i64 x382001_1)) (fun _ hk => hk.2) (.int .i64 x382002_1)) (fun _ hk => trivial), wk HB.out⟩
   ·rw [if_neg c9] at H
    have c9b0 := decide_eq_false c9
    clear c9
    simp only [Option.some.injEq, Prod.mk.injEq] at H
    obtain ⟨rfl, rfl, rfl, rfl⟩ := H
    have hnb30 := NB381_382.out
    have hnc30 := NB382_381.out
    obtain ⟨hcz31_0, hcz31_1, hcz31_2, hfz31_0, hfz31_1, hfz31_2⟩ := c3_ BK381.out
    obtain ⟨hcz32_0, hcz32_1, hcz32_2, hfz32_0, hfz32_1, hfz32_2⟩ := c3_ BK382.out
    go_wp2
    refine bodyPost_ret (results_ct rfl _ _ gb382 64 #[.string x382000_1, .int .i64 x382001_1, .int .i64 x382002_1] (0, 0) _ rfl (bp BK382.out) Try.underlying64 rfl (by kernel_rfl)) rfl ?_
    exact ⟨_, t1, by (with_reducible repeat (first | apply Kd.S_alloc | apply Kd.S_drewN | apply Kd.S_drew)); exact Kd.S_mono (Kd.S_far (p := ⟨gb382, 2, none⟩) (Kd.S_far (p := ⟨gb382, 1, none⟩) (Kd.S_far (p := ⟨gb382, 0, none⟩) (Kd.S_types HO_4.out BK382.out (by decide)) (fun _ hk => hk.2) (.string x382000_1)) (fun _ hk => hk.2) (.int .i64 x382001_1)) (fun _ hk => hk.2) (.int .i64 x382002_1)) (fun _ hk => trivial), wk HB.out⟩
end Go.Proofs.Ytnndanfghlnpfaa.P
