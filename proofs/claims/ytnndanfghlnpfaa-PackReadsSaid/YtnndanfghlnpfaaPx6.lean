import Derived.Test.YtnndanfghlnpfaaPx0
import Derived.Test.YtnndanfghlnpfaaPx5
namespace Go.Proofs.Ytnndanfghlnpfaa.P
open Go.RowKit Go.Proofs.YtnndanfghlnpfaaW.PrintWords Go.Proofs.YtnndanfghlnpfaaW.PrintLast Go.Proofs.YtnndanfghlnpfaaW.PrintMore
attribute [local go_sem] max2_int min2_int max_two min_two max_three min_three max_four min_four   -- for this text's walks alone
set_option linter.unusedVariables false
set_option linter.unusedSimpArgs false
/-! ### edit_Apply: function 92 -/
mutual
def edit_Apply.j0 : Nat → ByteArray → Bool → Int → ByteArray → ByteArray → Int → Int → Option (ByteArray × Int)
 | 0, _, _, _, _, _, _, _ => none
 | k + 1, x0, x26, x127000, x127001, x127002, x131000, x131001 => if x26 = true then (some ((⟨#[]⟩ : ByteArray), 4)) else ((utf_Valid.f k x127001).bind fun t133 => (if t133 = true then ((utf_Valid.f k x127002).bind fun t134 => (edit_Apply.j1 k x0 (!t134) x127000 x127001 x127002 x131000 x131001)) else (edit_Apply.j1 k x0 true x127000 x127001 x127002 x131000 x131001)))
def edit_Apply.j1 : Nat → ByteArray → Bool → Int → ByteArray → ByteArray → Int → Int → Option (ByteArray × Int)
 | 0, _, _, _, _, _, _, _ => none
 | k + 1, x0, x39, x127000, x127001, x127002, x131000, x131001 => if x39 = true then (some ((⟨#[]⟩ : ByteArray), 5)) else (if (wrap64 ((x0.size : Int) - (x127001.size : Int))) > (wrap64 (4096 - (x127002.size : Int))) then (some ((⟨#[]⟩ : ByteArray), 6)) else (if 0 ≤ x131000 then (if x131000 ≤ (x0.size : Int) then (if (x0.extract 0 (x131000 : Int).toNat).size + x127002.size ≤ 9223372036854775807 then (if 0 ≤ x131001 then (if x131001 ≤ (x0.size : Int) then (if ((x0.extract 0 (x131000 : Int).toNat) ++ x127002).size + (x0.extract (x131001 : Int).toNat x0.size).size ≤ 9223372036854775807 then (some (((x0.extract 0 (x131000 : Int).toNat) ++ x127002) ++ (x0.extract (x131001 : Int).toNat x0.size), 0)) else (none)) else (none)) else (none)) else (none)) else (none)) else (none)))
end
def edit_Apply.f (k : Nat) (a0 : ByteArray) (a1_0 : Int) (a1_1 : ByteArray) (a1_2 : ByteArray) : Option (ByteArray × Int) := (edit_of.f k a0 a1_0 a1_1 a1_2).bind fun bt127 => (if bt127.2.2 = true then (if 0 ≤ bt127.1 then (if bt127.1 ≤ bt127.2.1 then (if bt127.2.1 ≤ (a0.size : Int) then (if (a0.extract (bt127.1 : Int).toNat (bt127.2.1 : Int).toNat).toList = a1_1.toList then ((utf_Edge.f k a0 bt127.1).bind fun t131 => (if t131 = true then ((utf_Edge.f k a0 bt127.2.1).bind fun t132 => (edit_Apply.j0 k a0 (!t132) a1_0 a1_1 a1_2 bt127.1 bt127.2.1)) else (edit_Apply.j0 k a0 true a1_0 a1_1 a1_2 bt127.1 bt127.2.1))) else (some ((⟨#[]⟩ : ByteArray), 8))) else (none)) else (none)) else (none)) else (some ((⟨#[]⟩ : ByteArray), 3)))
theorem edit_Apply.mono_l : ∀ k, (∀ y0 y1 y2 y3 y4 y5 y6, LeO (edit_Apply.j0 k y0 y1 y2 y3 y4 y5 y6) (edit_Apply.j0 (k + 1) y0 y1 y2 y3 y4 y5 y6)) ∧ (∀ y0 y1 y2 y3 y4 y5 y6, LeO (edit_Apply.j1 k y0 y1 y2 y3 y4 y5 y6) (edit_Apply.j1 (k + 1) y0 y1 y2 y3 y4 y5 y6))
 | 0 => ⟨fun _ _ _ _ _ _ _ r h => by simp [edit_Apply.j0] at h, fun _ _ _ _ _ _ _ r h => by simp [edit_Apply.j1] at h⟩
 | k + 1 => by
  obtain ⟨ih0, ih1⟩ := edit_Apply.mono_l k
  refine ⟨?_, ?_⟩
  ·intro y0 y1 y2 y3 y4 y5 y6
   unfold edit_Apply.j0
   repeat' first
   | (with_reducible exact ih0 _ _ _ _ _ _ _)
   | (with_reducible exact ih1 _ _ _ _ _ _ _)
   | (with_reducible exact edit_of.mono _ _ _ _ _)
   | (with_reducible exact utf_Edge.mono _ _ _)
   | (with_reducible exact utf_Valid.mono _ _)
   | (with_reducible exact LeO.refl _)
   | (with_reducible exact LeO.none _)
   | (with_reducible refine LeO.ite ?_ ?_)
   | (with_reducible refine LeO.bind ?_ (fun _ => ?_))
   | exact ih0 _ _ _ _ _ _ _
   | exact ih1 _ _ _ _ _ _ _
   | exact edit_of.mono _ _ _ _ _
   | exact utf_Edge.mono _ _ _
   | exact utf_Valid.mono _ _
   | exact LeO.none _
   | refine LeO.ite ?_ ?_
   | refine LeO.bind ?_ (fun _ => ?_)
  ·intro y0 y1 y2 y3 y4 y5 y6
   unfold edit_Apply.j1
   repeat' first
   | (with_reducible exact ih0 _ _ _ _ _ _ _)
   | (with_reducible exact ih1 _ _ _ _ _ _ _)
   | (with_reducible exact edit_of.mono _ _ _ _ _)
   | (with_reducible exact utf_Edge.mono _ _ _)
   | (with_reducible exact utf_Valid.mono _ _)
   | (with_reducible exact LeO.refl _)
   | (with_reducible exact LeO.none _)
   | (with_reducible refine LeO.ite ?_ ?_)
   | (with_reducible refine LeO.bind ?_ (fun _ => ?_))
   | exact ih0 _ _ _ _ _ _ _
   | exact ih1 _ _ _ _ _ _ _
   | exact edit_of.mono _ _ _ _ _
   | exact utf_Edge.mono _ _ _
   | exact utf_Valid.mono _ _
   | exact LeO.none _
   | refine LeO.ite ?_ ?_
   | refine LeO.bind ?_ (fun _ => ?_)
theorem edit_Apply.mono : ∀ a0 a1 a2 a3 k, LeO (edit_Apply.f k a0 a1 a2 a3) (edit_Apply.f (k + 1) a0 a1 a2 a3) := by
 intro a0 a1 a2 a3 k
 obtain ⟨ih0, ih1⟩ := edit_Apply.mono_l k
 unfold edit_Apply.f
 repeat' first
   | (with_reducible exact ih0 _ _ _ _ _ _ _)
   | (with_reducible exact ih1 _ _ _ _ _ _ _)
   | (with_reducible exact edit_of.mono _ _ _ _ _)
   | (with_reducible exact utf_Edge.mono _ _ _)
   | (with_reducible exact utf_Valid.mono _ _)
   | (with_reducible exact LeO.refl _)
   | (with_reducible exact LeO.none _)
   | (with_reducible refine LeO.ite ?_ ?_)
   | (with_reducible refine LeO.bind ?_ (fun _ => ?_))
   | exact ih0 _ _ _ _ _ _ _
   | exact ih1 _ _ _ _ _ _ _
   | exact edit_of.mono _ _ _ _ _
   | exact utf_Edge.mono _ _ _
   | exact utf_Valid.mono _ _
   | exact LeO.none _
   | refine LeO.ite ?_ ?_
   | refine LeO.bind ?_ (fun _ => ?_)
set_option maxHeartbeats 8000000 in
set_option maxRecDepth 100000 in
theorem edit_Apply.calls (k : Nat) (a0 : ByteArray) (a1_0 : Int) (a1_1 : ByteArray) (a1_2 : ByteArray) (r1 : ByteArray) (r2 : Int) (w : World) (h : edit_Apply.f k a0 a1_0 a1_1 a1_2 = some (r1, r2)) :
  Calls Try.prog 92 #[.string a0, .agg #[.int .i64 a1_0, .string a1_1, .string a1_2]] w fun e w' => e = .returned (.tuple #[.string r1, .int .i64 r2]) ∧ Below w.heap.size w w' := by
 have hu88 := Try.underlying88
 have hu128 := Try.underlying128
 have HB := aS_ (Below.refl w.heap.size w)
 have H : ((edit_of.f k a0 a1_0 a1_1 a1_2).bind fun bt127 => (if bt127.2.2 = true then (if 0 ≤ bt127.1 then (if bt127.1 ≤ bt127.2.1 then (if bt127.2.1 ≤ (a0.size : Int) then (if (a0.extract (bt127.1 : Int).toNat (bt127.2.1 : Int).toNat).toList = a1_1.toList then ((utf_Edge.f k a0 bt127.1).bind fun t131 => (if t131 = true then ((utf_Edge.f k a0 bt127.2.1).bind fun t132 => (edit_Apply.j0 k a0 (!t132) a1_0 a1_1 a1_2 bt127.1 bt127.2.1)) else (edit_Apply.j0 k a0 true a1_0 a1_1 a1_2 bt127.1 bt127.2.1))) else (some ((⟨#[]⟩ : ByteArray), 8))) else (none)) else (none)) else (none)) else (some ((⟨#[]⟩ : ByteArray), 3)))) = some (r1, r2) := h
 clear h
 replace H := Option.bind_eq_some_iff.mp H
 obtain ⟨⟨t127, t128, t129⟩, A30, H⟩ := H
 try dsimp only at H
 have A3 := aS_ A30
 clear A30
 by_cases c4 : t129 = true
 ·subst c4
  rw [if_pos rfl] at H
  by_cases c5 : 0 ≤ t127
  ·rw [if_pos c5] at H
   have c5b0 := eq_true c5
   have c5b1 := decide_eq_true c5
   clear c5
   by_cases c6 : t127 ≤ t128
   ·rw [if_pos c6] at H
    have c6b0 := eq_true c6
    have c6b1 := decide_eq_true c6
    clear c6
    by_cases c7 : t128 ≤ (a0.size : Int)
    ·rw [if_pos c7] at H
     have c7b0 := eq_true c7
     have c7b1 := decide_eq_true c7
     clear c7
     by_cases c8 : (a0.extract (t127 : Int).toNat (t128 : Int).toNat).toList = a1_1.toList
     ·rw [if_pos c8] at H
      have c8b0 := beq_iff_eq.mpr c8
      have c8b1 := bne_eq_false_iff_eq.mpr c8
      clear c8
      have HC9 := aS_ H
      clear H
      go_enter Try.func92, Try.ntmps92
      go_upto_region 6 with (first | (refine bx_ 3 #[.int .i64 a1_0, .string a1_1, .string a1_2] 88 ?_; intro gb126 hg w10 hbox hb; have BK126 := aS_ (hbox); have GW126 := ge_ hg (wk HB.out); have GE126 := ge_ hg (wk HB.out); replace HB := bw_ HB hb; clear hb hbox hg; obtain ⟨hcz11_0, hcz11_1, hcz11_2, hfz11_0, hfz11_1, hfz11_2⟩ := c3_ BK126.out) | (go_at_call 102; (with_reducible refine (edit_of.calls k a0 a1_0 a1_1 a1_2 t127 t128 true _ A3.out).mono ?_); rintro e w12 ⟨rfl, hb⟩; replace BK126 := bb_ BK126 hb; replace HB := bw_ HB hb; try clear hb) | (refine bx_ 6 #[.int .i64 0, .int .i64 0] 128 ?_; intro gb130 hg w13 hbox hb; have BK130 := aS_ (hbox); have GW130 := ge_ hg (wk HB.out); have GE130 := ge_ hg (wk HB.out); replace HB := bw_ HB hb; have NB126_130 := nq_ hg (bk BK126.out); replace BK126 := bb_ BK126 hb; have NB130_126 := nr_ NB126_130; clear hb hbox hg; have hnb14 := NB130_126.out; have hnc14 := NB126_130.out; obtain ⟨hcz15_0, hcz15_1, hfz15_0, hfz15_1⟩ := c2_ BK130.out; obtain ⟨hcz16_0, hcz16_1, hcz16_2, hfz16_0, hfz16_1, hfz16_2⟩ := c3_ BK126.out))
      repeat (go_quiet (first | (refine bx_ 3 #[.int .i64 a1_0, .string a1_1, .string a1_2] 88 ?_; intro gb126 hg w10 hbox hb; have BK126 := aS_ (hbox); have GW126 := ge_ hg (wk HB.out); have GE126 := ge_ hg (wk HB.out); replace HB := bw_ HB hb; clear hb hbox hg; obtain ⟨hcz11_0, hcz11_1, hcz11_2, hfz11_0, hfz11_1, hfz11_2⟩ := c3_ BK126.out) | (go_at_call 102; (with_reducible refine (edit_of.calls k a0 a1_0 a1_1 a1_2 t127 t128 true _ A3.out).mono ?_); rintro e w12 ⟨rfl, hb⟩; replace BK126 := bb_ BK126 hb; replace HB := bw_ HB hb; try clear hb) | (refine bx_ 6 #[.int .i64 0, .int .i64 0] 128 ?_; intro gb130 hg w13 hbox hb; have BK130 := aS_ (hbox); have GW130 := ge_ hg (wk HB.out); have GE130 := ge_ hg (wk HB.out); replace HB := bw_ HB hb; have NB126_130 := nq_ hg (bk BK126.out); replace BK126 := bb_ BK126 hb; have NB130_126 := nr_ NB126_130; clear hb hbox hg; have hnb14 := NB130_126.out; have hnc14 := NB126_130.out; obtain ⟨hcz15_0, hcz15_1, hfz15_0, hfz15_1⟩ := c2_ BK130.out; obtain ⟨hcz16_0, hcz16_1, hcz16_2, hfz16_0, hfz16_1, hfz16_2⟩ := c3_ BK126.out)); go_upto_region 6 with (first | (refine bx_ 3 #[.int .i64 a1_0, .string a1_1, .string a1_2] 88 ?_; intro gb126 hg w10 hbox hb; have BK126 := aS_ (hbox); have GW126 := ge_ hg (wk HB.out); have GE126 := ge_ hg (wk HB.out); replace HB := bw_ HB hb; clear hb hbox hg; obtain ⟨hcz11_0, hcz11_1, hcz11_2, hfz11_0, hfz11_1, hfz11_2⟩ := c3_ BK126.out) | (go_at_call 102; (with_reducible refine (edit_of.calls k a0 a1_0 a1_1 a1_2 t127 t128 true _ A3.out).mono ?_); rintro e w12 ⟨rfl, hb⟩; replace BK126 := bb_ BK126 hb; replace HB := bw_ HB hb; try clear hb) | (refine bx_ 6 #[.int .i64 0, .int .i64 0] 128 ?_; intro gb130 hg w13 hbox hb; have BK130 := aS_ (hbox); have GW130 := ge_ hg (wk HB.out); have GE130 := ge_ hg (wk HB.out); replace HB := bw_ HB hb; have NB126_130 := nq_ hg (bk BK126.out); replace BK126 := bb_ BK126 hb; have NB130_126 := nr_ NB126_130; clear hb hbox hg; have hnb14 := NB130_126.out; have hnc14 := NB126_130.out; obtain ⟨hcz15_0, hcz15_1, hfz15_0, hfz15_1⟩ := c2_ BK130.out; obtain ⟨hcz16_0, hcz16_1, hcz16_2, hfz16_0, hfz16_1, hfz16_2⟩ := c3_ BK126.out)))
      (try simp only [Act.put, List.setIfInBounds_toArray, List.set_cons_zero, List.set_cons_succ])
      go_cut [26] (fun v26 wc => ∃ (kq : Nat) (x26_8 : Bool), v26 = .bool x26_8 ∧ Aside0 (edit_Apply.j0 kq a0 x26_8 a1_0 a1_1 a1_2 t127 t128 = some (r1, r2)) ∧ Aside0 (kq ≤ k) ∧ Aside0 (wc.heap[gb126]? = some (.cells #[.int .i64 a1_0, .string a1_1, .string a1_2] 88 (0, 0))) ∧ Aside0 (wc.heap[gb130]? = some (.cells #[.int .i64 t127, .int .i64 t128] 128 (0, 0))) ∧ Aside0 (Below w.heap.size w wc))
      case first =>
       have H := HC9.out
       clear HC9
       replace H := Option.bind_eq_some_iff.mp H
       obtain ⟨t131, A170, H⟩ := H
       try dsimp only at H
       have A17 := aS_ A170
       clear A170
       by_cases c18 : t131 = true
       ·subst c18
        rw [if_pos rfl] at H
        replace H := Option.bind_eq_some_iff.mp H
        obtain ⟨t132, A190, H⟩ := H
        try dsimp only at H
        have A19 := aS_ A190
        clear A190
        have H' := aS_ H
        clear H
        have hnb20 := NB130_126.out
        have hnc20 := NB126_130.out
        obtain ⟨hcz21_0, hcz21_1, hfz21_0, hfz21_1⟩ := c2_ BK130.out
        go_wp2_with (first | (go_at_call 71; (with_reducible refine (utf_Edge.calls k a0 t127 true _ A17.out).mono ?_); rintro e w' ⟨rfl, ⟨nd, rfl⟩⟩; (try first | exact ⟨rfl, _, World.drewN_drewN _ _ _⟩ | exact ⟨rfl, _, Eq.trans (World.drewN_drewN _ _ _) (congrArg (World.drewN _) (Nat.add_assoc _ _ _))⟩)) | (go_at_call 71; (with_reducible refine (utf_Edge.calls k a0 t128 t132 _ A19.out).mono ?_); rintro e w' ⟨rfl, ⟨nd, rfl⟩⟩; (try first | exact ⟨rfl, _, World.drewN_drewN _ _ _⟩ | exact ⟨rfl, _, Eq.trans (World.drewN_drewN _ _ _) (congrArg (World.drewN _) (Nat.add_assoc _ _ _))⟩)))
        repeat (go_quiet (first | (go_at_call 71; (with_reducible refine (utf_Edge.calls k a0 t127 true _ A17.out).mono ?_); rintro e w' ⟨rfl, ⟨nd, rfl⟩⟩; (try first | exact ⟨rfl, _, World.drewN_drewN _ _ _⟩ | exact ⟨rfl, _, Eq.trans (World.drewN_drewN _ _ _) (congrArg (World.drewN _) (Nat.add_assoc _ _ _))⟩)) | (go_at_call 71; (with_reducible refine (utf_Edge.calls k a0 t128 t132 _ A19.out).mono ?_); rintro e w' ⟨rfl, ⟨nd, rfl⟩⟩; (try first | exact ⟨rfl, _, World.drewN_drewN _ _ _⟩ | exact ⟨rfl, _, Eq.trans (World.drewN_drewN _ _ _) (congrArg (World.drewN _) (Nat.add_assoc _ _ _))⟩))); try go_wp2_with (first | (go_at_call 71; (with_reducible refine (utf_Edge.calls k a0 t127 true _ A17.out).mono ?_); rintro e w' ⟨rfl, ⟨nd, rfl⟩⟩; (try first | exact ⟨rfl, _, World.drewN_drewN _ _ _⟩ | exact ⟨rfl, _, Eq.trans (World.drewN_drewN _ _ _) (congrArg (World.drewN _) (Nat.add_assoc _ _ _))⟩)) | (go_at_call 71; (with_reducible refine (utf_Edge.calls k a0 t128 t132 _ A19.out).mono ?_); rintro e w' ⟨rfl, ⟨nd, rfl⟩⟩; (try first | exact ⟨rfl, _, World.drewN_drewN _ _ _⟩ | exact ⟨rfl, _, Eq.trans (World.drewN_drewN _ _ _) (congrArg (World.drewN _) (Nat.add_assoc _ _ _))⟩))))
        go_meet
        case rel => exact ⟨_, (!t132), t0, H', ⟨t3⟩, ⟨bq BK126.out⟩, ⟨bp BK130.out⟩, ⟨wk HB.out⟩⟩
       ·replace c18 := Bool.eq_false_iff.mpr c18
        subst c18
        rw [if_neg Bool.false_ne_true] at H
        have H' := aS_ H
        clear H
        have hnb22 := NB130_126.out
        have hnc22 := NB126_130.out
        obtain ⟨hcz23_0, hcz23_1, hfz23_0, hfz23_1⟩ := c2_ BK130.out
        go_wp2_with (first | (go_at_call 71; (with_reducible refine (utf_Edge.calls k a0 t127 false _ A17.out).mono ?_); rintro e w' ⟨rfl, ⟨nd, rfl⟩⟩; (try first | exact ⟨rfl, _, World.drewN_drewN _ _ _⟩ | exact ⟨rfl, _, Eq.trans (World.drewN_drewN _ _ _) (congrArg (World.drewN _) (Nat.add_assoc _ _ _))⟩)))
        repeat (go_quiet (first | (go_at_call 71; (with_reducible refine (utf_Edge.calls k a0 t127 false _ A17.out).mono ?_); rintro e w' ⟨rfl, ⟨nd, rfl⟩⟩; (try first | exact ⟨rfl, _, World.drewN_drewN _ _ _⟩ | exact ⟨rfl, _, Eq.trans (World.drewN_drewN _ _ _) (congrArg (World.drewN _) (Nat.add_assoc _ _ _))⟩))); try go_wp2_with (first | (go_at_call 71; (with_reducible refine (utf_Edge.calls k a0 t127 false _ A17.out).mono ?_); rintro e w' ⟨rfl, ⟨nd, rfl⟩⟩; (try first | exact ⟨rfl, _, World.drewN_drewN _ _ _⟩ | exact ⟨rfl, _, Eq.trans (World.drewN_drewN _ _ _) (congrArg (World.drewN _) (Nat.add_assoc _ _ _))⟩))))
        go_meet
        case rel => exact ⟨_, (true), t0, H', ⟨t3⟩, ⟨bq BK126.out⟩, ⟨bp BK130.out⟩, ⟨wk HB.out⟩⟩
      case rest =>
       clear HC9
       try clear c1
       try clear c2
       try clear p2
       try clear c4
       try clear c5
       try clear c5b0
       try clear c5b1
       try clear c6
       try clear c6b0
       try clear c6b1
       try clear c7
       try clear c7b0
       try clear c7b1
       try clear c8
       try clear c8b0
       try clear c8b1
       try clear c9
       try clear c14
       try clear c18
       try clear c20
       try clear c22
       try clear hcz11_0 hcz11_1 hcz11_2 hcz15_0 hcz15_1 hcz16_0 hcz16_1 hcz16_2 hcz21_0 hcz21_1 hcz23_0 hcz23_1 hfz11_0 hfz11_1 hfz11_2 hfz15_0 hfz15_1 hfz16_0 hfz16_1 hfz16_2 hfz21_0 hfz21_1 hfz23_0 hfz23_1
       obtain ⟨kq, x26_8, rfl, HA, HJ8, BK126, BK130, HB⟩ := hcut
       cases kq with
       | zero => exact absurd HA.out (by simp [edit_Apply.j0])
       | succ kj8 =>
        have H := HA.out
        clear HA
        simp only [edit_Apply.j0] at H
        by_cases c24 : x26_8 = true
        ·subst c24
         rw [if_pos rfl] at H
         simp only [Option.some.injEq, Prod.mk.injEq] at H
         obtain ⟨rfl, rfl⟩ := H
         go_wp2
         repeat (go_quiet (fail); try go_wp2)
         go_ret2
         exact ⟨t1, wk HB.out⟩
        ·replace c24 := Bool.eq_false_iff.mpr c24
         subst c24
         rw [if_neg Bool.false_ne_true] at H
         have HC25 := aS_ H
         clear H
         go_upto_region 8 with (fail)
         repeat (go_quiet (fail); go_upto_region 8 with (fail))
         go_cut [39] (fun v39 wc => ∃ (kq : Nat) (x39_24 : Bool), v39 = .bool x39_24 ∧ Aside0 (edit_Apply.j1 kq a0 x39_24 a1_0 a1_1 a1_2 t127 t128 = some (r1, r2)) ∧ Aside0 (kq ≤ kj8) ∧ Aside0 (wc.heap[gb126]? = some (.cells #[.int .i64 a1_0, .string a1_1, .string a1_2] 88 (0, 0))) ∧ Aside0 (wc.heap[gb130]? = some (.cells #[.int .i64 t127, .int .i64 t128] 128 (0, 0))) ∧ Aside0 (Below w.heap.size w wc))
         case first =>
          have H := HC25.out
          clear HC25
          replace H := Option.bind_eq_some_iff.mp H
          obtain ⟨t133, A260, H⟩ := H
          try dsimp only at H
          have A26 := aS_ A260
          clear A260
          by_cases c27 : t133 = true
          ·subst c27
           rw [if_pos rfl] at H
           replace H := Option.bind_eq_some_iff.mp H
           obtain ⟨t134, A280, H⟩ := H
           try dsimp only at H
           have A28 := aS_ A280
           clear A280
           have H' := aS_ H
           clear H
           have hnb29 := NB126_130.out
           have hnc29 := NB130_126.out
           obtain ⟨hcz30_0, hcz30_1, hcz30_2, hfz30_0, hfz30_1, hfz30_2⟩ := c3_ BK126.out
           go_wp2_with (first | (go_at_call 39; (with_reducible refine (utf_Valid.calls kj8 a1_1 true _ A26.out).mono ?_); rintro e w31 ⟨rfl, hb⟩; replace BK126 := bb_ BK126 hb; replace BK130 := bb_ BK130 hb; replace HB := bw_ HB hb; try clear hb; obtain ⟨hcz32_0, hcz32_1, hcz32_2, hfz32_0, hfz32_1, hfz32_2⟩ := c3_ BK126.out) | (go_at_call 39; (with_reducible refine (utf_Valid.calls kj8 a1_2 t134 _ A28.out).mono ?_); rintro e w33 ⟨rfl, hb⟩; replace BK126 := bb_ BK126 hb; replace BK130 := bb_ BK130 hb; replace HB := bw_ HB hb; try clear hb))
           repeat (go_quiet (first | (go_at_call 39; (with_reducible refine (utf_Valid.calls kj8 a1_1 true _ A26.out).mono ?_); rintro e w31 ⟨rfl, hb⟩; replace BK126 := bb_ BK126 hb; replace BK130 := bb_ BK130 hb; replace HB := bw_ HB hb; try clear hb; obtain ⟨hcz32_0, hcz32_1, hcz32_2, hfz32_0, hfz32_1, hfz32_2⟩ := c3_ BK126.out) | (go_at_call 39; (with_reducible refine (utf_Valid.calls kj8 a1_2 t134 _ A28.out).mono ?_); rintro e w33 ⟨rfl, hb⟩; replace BK126 := bb_ BK126 hb; replace BK130 := bb_ BK130 hb; replace HB := bw_ HB hb; try clear hb)); try go_wp2_with (first | (go_at_call 39; (with_reducible refine (utf_Valid.calls kj8 a1_1 true _ A26.out).mono ?_); rintro e w31 ⟨rfl, hb⟩; replace BK126 := bb_ BK126 hb; replace BK130 := bb_ BK130 hb; replace HB := bw_ HB hb; try clear hb; obtain ⟨hcz32_0, hcz32_1, hcz32_2, hfz32_0, hfz32_1, hfz32_2⟩ := c3_ BK126.out) | (go_at_call 39; (with_reducible refine (utf_Valid.calls kj8 a1_2 t134 _ A28.out).mono ?_); rintro e w33 ⟨rfl, hb⟩; replace BK126 := bb_ BK126 hb; replace BK130 := bb_ BK130 hb; replace HB := bw_ HB hb; try clear hb)))
           go_meet
           case rel => exact ⟨_, (!t134), t0, H', ⟨by have := HJ8.out; first | omega | exact Nat.le_refl _⟩, ⟨bq BK126.out⟩, ⟨bq BK130.out⟩, ⟨wk HB.out⟩⟩
          ·replace c27 := Bool.eq_false_iff.mpr c27
           subst c27
           rw [if_neg Bool.false_ne_true] at H
           have H' := aS_ H
           clear H
           have hnb34 := NB126_130.out
           have hnc34 := NB130_126.out
           obtain ⟨hcz35_0, hcz35_1, hcz35_2, hfz35_0, hfz35_1, hfz35_2⟩ := c3_ BK126.out
           go_wp2_with (first | (go_at_call 39; (with_reducible refine (utf_Valid.calls kj8 a1_1 false _ A26.out).mono ?_); rintro e w36 ⟨rfl, hb⟩; replace BK126 := bb_ BK126 hb; replace BK130 := bb_ BK130 hb; replace HB := bw_ HB hb; try clear hb))
           repeat (go_quiet (first | (go_at_call 39; (with_reducible refine (utf_Valid.calls kj8 a1_1 false _ A26.out).mono ?_); rintro e w36 ⟨rfl, hb⟩; replace BK126 := bb_ BK126 hb; replace BK130 := bb_ BK130 hb; replace HB := bw_ HB hb; try clear hb)); try go_wp2_with (first | (go_at_call 39; (with_reducible refine (utf_Valid.calls kj8 a1_1 false _ A26.out).mono ?_); rintro e w36 ⟨rfl, hb⟩; replace BK126 := bb_ BK126 hb; replace BK130 := bb_ BK130 hb; replace HB := bw_ HB hb; try clear hb)))
           go_meet
           case rel => exact ⟨_, (true), t0, H', ⟨by have := HJ8.out; first | omega | exact Nat.le_refl _⟩, ⟨bq BK126.out⟩, ⟨bq BK130.out⟩, ⟨wk HB.out⟩⟩
         case rest =>
          clear HC25
          try clear c1
          try clear c2
          try clear p2
          try clear c3
          try clear c4
          try clear c5
          try clear c5b0
          try clear c5b1
          try clear c6
          try clear c6b0
          try clear c6b1
          try clear c7
          try clear c7b0
          try clear c7b1
          try clear c8
          try clear c8b0
          try clear c8b1
          try clear c9
          try clear c14
          try clear c18
          try clear c20
          try clear c22
          try clear c24
          try clear c27
          try clear c29
          try clear c34
          try clear hcz11_0 hcz11_1 hcz11_2 hcz15_0 hcz15_1 hcz16_0 hcz16_1 hcz16_2 hcz21_0 hcz21_1 hcz23_0 hcz23_1 hcz30_0 hcz30_1 hcz30_2 hcz32_0 hcz32_1 hcz32_2 hcz35_0 hcz35_1 hcz35_2 hfz11_0 hfz11_1 hfz11_2 hfz15_0 hfz15_1 hfz16_0 hfz16_1 hfz16_2 hfz21_0 hfz21_1 hfz23_0 hfz23_1 hfz30_0 hfz30_1 hfz30_2 hfz32_0 hfz32_1 hfz32_2 hfz35_0 hfz35_1 hfz35_2
          try clear p2
          obtain ⟨kq, x39_24, rfl, HA, HJ24, BK126, BK130, HB⟩ := hcut
          cases kq with
          | zero => exact absurd HA.out (by simp [edit_Apply.j1])
          | succ kj24 =>
           have H := HA.out
           clear HA
           simp only [edit_Apply.j1] at H
           by_cases c37 : x39_24 = true
           ·subst c37
            rw [if_pos rfl] at H
            simp only [Option.some.injEq, Prod.mk.injEq] at H
            obtain ⟨rfl, rfl⟩ := H
            go_wp2
            repeat (go_quiet (fail); try go_wp2)
            go_ret2
            exact ⟨t1, wk HB.out⟩
           ·replace c37 := Bool.eq_false_iff.mpr c37
            subst c37
            rw [if_neg Bool.false_ne_true] at H
            by_cases c38 : (wrap64 ((a0.size : Int) - (a1_1.size : Int))) > (wrap64 (4096 - (a1_2.size : Int)))
            ·rw [if_pos c38] at H
             have c38b0 := decide_eq_true c38
             clear c38
             simp only [Option.some.injEq, Prod.mk.injEq] at H
             obtain ⟨rfl, rfl⟩ := H
             have hnb39 := NB126_130.out
             have hnc39 := NB130_126.out
             obtain ⟨hcz40_0, hcz40_1, hcz40_2, hfz40_0, hfz40_1, hfz40_2⟩ := c3_ BK126.out
             try have c38b0w0 := by have h_ := c38b0; rw [show wrap64 (4096 - (a1_2.size : Int)) = 4096 - (a1_2.size : Int) from by unfold wrap64; omega] at h_; exact h_
             try have c38b0w1 := by have h_ := c38b0; rw [show wrap64 ((a0.size : Int) - (a1_1.size : Int)) = (a0.size : Int) - (a1_1.size : Int) from by unfold wrap64; omega] at h_; exact h_
             go_wp2
             repeat (go_quiet (fail); try go_wp2)
             go_ret2
             exact ⟨t1, wk HB.out⟩
            ·rw [if_neg c38] at H
             have c38b0 := decide_eq_false c38
             clear c38
             by_cases c41 : 0 ≤ t127
             ·rw [if_pos c41] at H
              have c41b0 := eq_true c41
              have c41b1 := decide_eq_true c41
              clear c41
              by_cases c42 : t127 ≤ (a0.size : Int)
              ·rw [if_pos c42] at H
               have c42b0 := eq_true c42
               have c42b1 := decide_eq_true c42
               clear c42
               by_cases c43 : (a0.extract 0 (t127 : Int).toNat).size + a1_2.size ≤ 9223372036854775807
               ·rw [if_pos c43] at H
                have c43b0 := eq_true c43
                have c43b1 := decide_eq_true c43
                try have c43b2 : (9223372036854775807 < (a0.extract 0 (t127 : Int).toNat).size + a1_2.size) = False := eq_false (Nat.not_lt.2 c43)
                try have c43b3 : (9223372036854775807 < (a0.extract 0 (t127 : Int).toNat).size + a1_2.size) = False := eq_false (by have h_ := c43; (try simp only [ByteArray.size_append] at h_); (try simp only [ByteArray.size_extract] at h_); (try simp only [decide_eq_true_eq] at *); omega)
                by_cases c44 : 0 ≤ t128
                ·rw [if_pos c44] at H
                 have c44b0 := eq_true c44
                 have c44b1 := decide_eq_true c44
                 clear c44
                 by_cases c45 : t128 ≤ (a0.size : Int)
                 ·rw [if_pos c45] at H
                  have c45b0 := eq_true c45
                  have c45b1 := decide_eq_true c45
                  clear c45
                  by_cases c46 : ((a0.extract 0 (t127 : Int).toNat) ++ a1_2).size + (a0.extract (t128 : Int).toNat a0.size).size ≤ 9223372036854775807
                  ·rw [if_pos c46] at H
                   have c46b0 := eq_true c46
                   have c46b1 := decide_eq_true c46
                   try have c46b2 : (9223372036854775807 < ((a0.extract 0 (t127 : Int).toNat) ++ a1_2).size + (a0.extract (t128 : Int).toNat a0.size).size) = False := eq_false (Nat.not_lt.2 c46)
                   try have c46b3 : (9223372036854775807 < (a0.extract 0 (t127 : Int).toNat).size + a1_2.size + (a0.extract (t128 : Int).toNat a0.size).size) = False := eq_false (by have h_ := c46; (try simp only [ByteArray.size_append] at h_); (try simp only [ByteArray.size_extract] at h_); (try simp only [decide_eq_true_eq] at *); omega)
                   simp only [Option.some.injEq, Prod.mk.injEq] at H
                   obtain ⟨rfl, rfl⟩ := H
                   have hnb47 := NB126_130.out
                   have hnc47 := NB130_126.out
                   obtain ⟨hcz48_0, hcz48_1, hcz48_2, hfz48_0, hfz48_1, hfz48_2⟩ := c3_ BK126.out
                   obtain ⟨hcz49_0, hcz49_1, hfz49_0, hfz49_1⟩ := c2_ BK130.out
                   try have c38b0w0 := by have h_ := c38b0; rw [show wrap64 (4096 - (a1_2.size : Int)) = 4096 - (a1_2.size : Int) from by unfold wrap64; omega] at h_; exact h_
                   try have c38b0w1 := by have h_ := c38b0; rw [show wrap64 ((a0.size : Int) - (a1_1.size : Int)) = (a0.size : Int) - (a1_1.size : Int) from by unfold wrap64; omega] at h_; exact h_
                   go_wp2
                   repeat (go_quiet (fail); try go_wp2)
                   go_ret2
                   exact ⟨t1, wk HB.out⟩
                  ·rw [if_neg c46] at H
                   exact absurd H (by simp)
                 ·rw [if_neg c45] at H
                  exact absurd H (by simp)
                ·rw [if_neg c44] at H
                 exact absurd H (by simp)
               ·rw [if_neg c43] at H
                exact absurd H (by simp)
              ·rw [if_neg c42] at H
               exact absurd H (by simp)
             ·rw [if_neg c41] at H
              exact absurd H (by simp)
     ·rw [if_neg c8] at H
      have c8b0 := beq_eq_false_iff_ne.mpr c8
      have c8b1 := bne_iff_ne.mpr c8
      simp only [Option.some.injEq, Prod.mk.injEq] at H
      obtain ⟨rfl, rfl⟩ := H
      go_enter Try.func92, Try.ntmps92
      go_wp2_with (first | (refine bx_ 3 #[.int .i64 a1_0, .string a1_1, .string a1_2] 88 ?_; intro gb126 hg w50 hbox hb; have BK126 := aS_ (hbox); have GW126 := ge_ hg (wk HB.out); have GE126 := ge_ hg (wk HB.out); replace HB := bw_ HB hb; clear hb hbox hg; obtain ⟨hcz51_0, hcz51_1, hcz51_2, hfz51_0, hfz51_1, hfz51_2⟩ := c3_ BK126.out) | (go_at_call 102; (with_reducible refine (edit_of.calls k a0 a1_0 a1_1 a1_2 t127 t128 true _ A3.out).mono ?_); rintro e w52 ⟨rfl, hb⟩; replace BK126 := bb_ BK126 hb; replace HB := bw_ HB hb; try clear hb) | (refine bx_ 6 #[.int .i64 0, .int .i64 0] 128 ?_; intro gb130 hg w53 hbox hb; have BK130 := aS_ (hbox); have GW130 := ge_ hg (wk HB.out); have GE130 := ge_ hg (wk HB.out); replace HB := bw_ HB hb; have NB126_130 := nq_ hg (bk BK126.out); replace BK126 := bb_ BK126 hb; have NB130_126 := nr_ NB126_130; clear hb hbox hg; have hnb54 := NB130_126.out; have hnc54 := NB126_130.out; obtain ⟨hcz55_0, hcz55_1, hfz55_0, hfz55_1⟩ := c2_ BK130.out; obtain ⟨hcz56_0, hcz56_1, hcz56_2, hfz56_0, hfz56_1, hfz56_2⟩ := c3_ BK126.out))
      repeat (go_quiet (first | (refine bx_ 3 #[.int .i64 a1_0, .string a1_1, .string a1_2] 88 ?_; intro gb126 hg w50 hbox hb; have BK126 := aS_ (hbox); have GW126 := ge_ hg (wk HB.out); have GE126 := ge_ hg (wk HB.out); replace HB := bw_ HB hb; clear hb hbox hg; obtain ⟨hcz51_0, hcz51_1, hcz51_2, hfz51_0, hfz51_1, hfz51_2⟩ := c3_ BK126.out) | (go_at_call 102; (with_reducible refine (edit_of.calls k a0 a1_0 a1_1 a1_2 t127 t128 true _ A3.out).mono ?_); rintro e w52 ⟨rfl, hb⟩; replace BK126 := bb_ BK126 hb; replace HB := bw_ HB hb; try clear hb) | (refine bx_ 6 #[.int .i64 0, .int .i64 0] 128 ?_; intro gb130 hg w53 hbox hb; have BK130 := aS_ (hbox); have GW130 := ge_ hg (wk HB.out); have GE130 := ge_ hg (wk HB.out); replace HB := bw_ HB hb; have NB126_130 := nq_ hg (bk BK126.out); replace BK126 := bb_ BK126 hb; have NB130_126 := nr_ NB126_130; clear hb hbox hg; have hnb54 := NB130_126.out; have hnc54 := NB126_130.out; obtain ⟨hcz55_0, hcz55_1, hfz55_0, hfz55_1⟩ := c2_ BK130.out; obtain ⟨hcz56_0, hcz56_1, hcz56_2, hfz56_0, hfz56_1, hfz56_2⟩ := c3_ BK126.out)); try go_wp2_with (first | (refine bx_ 3 #[.int .i64 a1_0, .string a1_1, .string a1_2] 88 ?_; intro gb126 hg w50 hbox hb; have BK126 := aS_ (hbox); have GW126 := ge_ hg (wk HB.out); have GE126 := ge_ hg (wk HB.out); replace HB := bw_ HB hb; clear hb hbox hg; obtain ⟨hcz51_0, hcz51_1, hcz51_2, hfz51_0, hfz51_1, hfz51_2⟩ := c3_ BK126.out) | (go_at_call 102; (with_reducible refine (edit_of.calls k a0 a1_0 a1_1 a1_2 t127 t128 true _ A3.out).mono ?_); rintro e w52 ⟨rfl, hb⟩; replace BK126 := bb_ BK126 hb; replace HB := bw_ HB hb; try clear hb) | (refine bx_ 6 #[.int .i64 0, .int .i64 0] 128 ?_; intro gb130 hg w53 hbox hb; have BK130 := aS_ (hbox); have GW130 := ge_ hg (wk HB.out); have GE130 := ge_ hg (wk HB.out); replace HB := bw_ HB hb; have NB126_130 := nq_ hg (bk BK126.out); replace BK126 := bb_ BK126 hb; have NB130_126 := nr_ NB126_130; clear hb hbox hg; have hnb54 := NB130_126.out; have hnc54 := NB126_130.out; obtain ⟨hcz55_0, hcz55_1, hfz55_0, hfz55_1⟩ := c2_ BK130.out; obtain ⟨hcz56_0, hcz56_1, hcz56_2, hfz56_0, hfz56_1, hfz56_2⟩ := c3_ BK126.out)))
      go_ret2
      exact ⟨t1, wk HB.out⟩
    ·rw [if_neg c7] at H
     exact absurd H (by simp)
   ·rw [if_neg c6] at H
    exact absurd H (by simp)
  ·rw [if_neg c5] at H
   exact absurd H (by simp)
 ·replace c4 := Bool.eq_false_iff.mpr c4
  subst c4
  rw [if_neg Bool.false_ne_true] at H
  simp only [Option.some.injEq, Prod.mk.injEq] at H
  obtain ⟨rfl, rfl⟩ := H
  go_enter Try.func92, Try.ntmps92
  go_wp2_with (first | (refine bx_ 3 #[.int .i64 a1_0, .string a1_1, .string a1_2] 88 ?_; intro gb126 hg w57 hbox hb; have BK126 := aS_ (hbox); have GW126 := ge_ hg (wk HB.out); have GE126 := ge_ hg (wk HB.out); replace HB := bw_ HB hb; clear hb hbox hg; obtain ⟨hcz58_0, hcz58_1, hcz58_2, hfz58_0, hfz58_1, hfz58_2⟩ := c3_ BK126.out) | (go_at_call 102; (with_reducible refine (edit_of.calls k a0 a1_0 a1_1 a1_2 t127 t128 false _ A3.out).mono ?_); rintro e w59 ⟨rfl, hb⟩; replace BK126 := bb_ BK126 hb; replace HB := bw_ HB hb; try clear hb) | (refine bx_ 6 #[.int .i64 0, .int .i64 0] 128 ?_; intro gb130 hg w60 hbox hb; have BK130 := aS_ (hbox); have GW130 := ge_ hg (wk HB.out); have GE130 := ge_ hg (wk HB.out); replace HB := bw_ HB hb; have NB126_130 := nq_ hg (bk BK126.out); replace BK126 := bb_ BK126 hb; have NB130_126 := nr_ NB126_130; clear hb hbox hg; have hnb61 := NB130_126.out; have hnc61 := NB126_130.out; obtain ⟨hcz62_0, hcz62_1, hfz62_0, hfz62_1⟩ := c2_ BK130.out))
  repeat (go_quiet (first | (refine bx_ 3 #[.int .i64 a1_0, .string a1_1, .string a1_2] 88 ?_; intro gb126 hg w57 hbox hb; have BK126 := aS_ (hbox); have GW126 := ge_ hg (wk HB.out); have GE126 := ge_ hg (wk HB.out); replace HB := bw_ HB hb; clear hb hbox hg; obtain ⟨hcz58_0, hcz58_1, hcz58_2, hfz58_0, hfz58_1, hfz58_2⟩ := c3_ BK126.out) | (go_at_call 102; (with_reducible refine (edit_of.calls k a0 a1_0 a1_1 a1_2 t127 t128 false _ A3.out).mono ?_); rintro e w59 ⟨rfl, hb⟩; replace BK126 := bb_ BK126 hb; replace HB := bw_ HB hb; try clear hb) | (refine bx_ 6 #[.int .i64 0, .int .i64 0] 128 ?_; intro gb130 hg w60 hbox hb; have BK130 := aS_ (hbox); have GW130 := ge_ hg (wk HB.out); have GE130 := ge_ hg (wk HB.out); replace HB := bw_ HB hb; have NB126_130 := nq_ hg (bk BK126.out); replace BK126 := bb_ BK126 hb; have NB130_126 := nr_ NB126_130; clear hb hbox hg; have hnb61 := NB130_126.out; have hnc61 := NB126_130.out; obtain ⟨hcz62_0, hcz62_1, hfz62_0, hfz62_1⟩ := c2_ BK130.out)); try go_wp2_with (first | (refine bx_ 3 #[.int .i64 a1_0, .string a1_1, .string a1_2] 88 ?_; intro gb126 hg w57 hbox hb; have BK126 := aS_ (hbox); have GW126 := ge_ hg (wk HB.out); have GE126 := ge_ hg (wk HB.out); replace HB := bw_ HB hb; clear hb hbox hg; obtain ⟨hcz58_0, hcz58_1, hcz58_2, hfz58_0, hfz58_1, hfz58_2⟩ := c3_ BK126.out) | (go_at_call 102; (with_reducible refine (edit_of.calls k a0 a1_0 a1_1 a1_2 t127 t128 false _ A3.out).mono ?_); rintro e w59 ⟨rfl, hb⟩; replace BK126 := bb_ BK126 hb; replace HB := bw_ HB hb; try clear hb) | (refine bx_ 6 #[.int .i64 0, .int .i64 0] 128 ?_; intro gb130 hg w60 hbox hb; have BK130 := aS_ (hbox); have GW130 := ge_ hg (wk HB.out); have GE130 := ge_ hg (wk HB.out); replace HB := bw_ HB hb; have NB126_130 := nq_ hg (bk BK126.out); replace BK126 := bb_ BK126 hb; have NB130_126 := nr_ NB126_130; clear hb hbox hg; have hnb61 := NB130_126.out; have hnc61 := NB126_130.out; obtain ⟨hcz62_0, hcz62_1, hfz62_0, hfz62_1⟩ := c2_ BK130.out)))
  go_ret2
  exact ⟨t1, wk HB.out⟩
/-! ### step_Run: function 73 -/
def step_Run.l0 : Nat → ByteArray → List (S88) → Int → Int → Option (ByteArray × Int)
 | 0, _, _, _, _ => none
 | k + 1, x0, x11, x12, x13 => if x13 < x12 then (if 0 ≤ x13 then (if x13 < (x11.length : Int) then ((edit_Apply.f k x0 ((rd_T88 x11 x13).f0) ((rd_T88 x11 x13).f1) ((rd_T88 x11 x13).f2)).bind fun bt138 => (if bt138.2 = 0 then (step_Run.l0 k bt138.1 x11 x12 (wrap64 (x13 + 1))) else (some ((⟨#[]⟩ : ByteArray), bt138.2)))) else (none)) else (none)) else (some (x0, 0))
def step_Run.f (k : Nat) (a0 : ByteArray) (l1_0 : List (S88)) : Option (ByteArray × Int) := step_Run.l0 k a0 l1_0 (l1_0.length : Int) 0
theorem step_Run.mono_l : ∀ k, (∀ y0 y1 y2 y3, LeO (step_Run.l0 k y0 y1 y2 y3) (step_Run.l0 (k + 1) y0 y1 y2 y3))
 | 0 => fun _ _ _ _ r h => by simp [step_Run.l0] at h
 | k + 1 => by
  have ih0 := step_Run.mono_l k
  ·intro y0 y1 y2 y3
   unfold step_Run.l0
   repeat' first
   | (with_reducible exact ih0 _ _ _ _)
   | (with_reducible exact edit_Apply.mono _ _ _ _ _)
   | (with_reducible exact LeO.refl _)
   | (with_reducible exact LeO.none _)
   | (with_reducible refine LeO.ite ?_ ?_)
   | (with_reducible refine LeO.bind ?_ (fun _ => ?_))
   | exact ih0 _ _ _ _
   | exact edit_Apply.mono _ _ _ _ _
   | exact LeO.none _
   | refine LeO.ite ?_ ?_
   | refine LeO.bind ?_ (fun _ => ?_)
theorem step_Run.mono : ∀ a0 a1 k, LeO (step_Run.f k a0 a1) (step_Run.f (k + 1) a0 a1) := by
 intro a0 a1 k
 have ih0 := step_Run.mono_l k
 unfold step_Run.f
 repeat' first
   | (with_reducible exact ih0 _ _ _ _)
   | (with_reducible exact edit_Apply.mono _ _ _ _ _)
   | (with_reducible exact LeO.refl _)
   | (with_reducible exact LeO.none _)
   | (with_reducible refine LeO.ite ?_ ?_)
   | (with_reducible refine LeO.bind ?_ (fun _ => ?_))
   | exact ih0 _ _ _ _
   | exact edit_Apply.mono _ _ _ _ _
   | exact LeO.none _
   | refine LeO.ite ?_ ?_
   | refine LeO.bind ?_ (fun _ => ?_)
set_option maxHeartbeats 8000000 in
set_option maxRecDepth 100000 in
theorem step_Run.calls (k : Nat) (a0 : ByteArray) (A1_0 : Option Addr) (c1_0 : Nat) (l1_0 : List (S88)) (r1 : ByteArray) (r2 : Int) (w : World) (hr1_0 : Kd.C k88 w A1_0 l1_0.length l1_0) (hc1_0 : l1_0.length ≤ c1_0) (h : step_Run.f k a0 l1_0 = some (r1, r2)) :
  Calls Try.prog 73 #[.string a0, .agg #[.slice A1_0 l1_0.length c1_0]] w fun e w' => e = .returned (.tuple #[.string r1, .int .i64 r2]) ∧ Below w.heap.size w w' := by
 have hu38 := Try.underlying38
 have hu88 := Try.underlying88
 have HR1_0 := aS_ hr1_0
 have HC1_0 := aS_ hc1_0
 clear hr1_0 hc1_0
 have HB := aS_ (Below.refl w.heap.size w)
 have H : (step_Run.l0 k a0 l1_0 (l1_0.length : Int) 0) = some (r1, r2) := h
 clear h
 have H' := aS_ H
 clear H
 go_enter Try.func73, Try.ntmps73
 go_wp2_with (first | (refine bx_ 3 #[.slice A1_0 l1_0.length c1_0] 38 ?_; intro gb135 hg w3 hbox hb; have BK135 := aS_ (hbox); have GW135 := ge_ hg (wk HB.out); have GE135 := ge_ hg (wk HB.out); replace HB := bw_ HB hb; clear hb hbox hg; obtain ⟨hcz4_0, hfz4_0⟩ := c1_ BK135.out))
 go_loopg [0, 13] k (fun kq v0 v13 w' => ∃ (x0_1 : ByteArray) (x13_1 : Int), v0 = .string x0_1 ∧ v13 = .int .i64 x13_1 ∧ Aside0 (step_Run.l0 kq x0_1 l1_0 (l1_0.length : Int) x13_1 = some (r1, r2)) ∧ Aside0 (kq ≤ k) ∧ Aside0 (w'.heap[gb135]? = some (.cells #[(.slice A1_0 l1_0.length c1_0)] 38 (0, 0))) ∧ Aside0 (Below w.heap.size w w'))
 case atStart => exact ⟨(a0), (0), t0, t0, H', ⟨Nat.le_refl _⟩, ⟨bq BK135.out⟩, ⟨wk HB.out⟩⟩
 case round =>
  clear H'
  try clear c1
  try clear p2
  try clear hcz4_0 hfz4_0
  obtain ⟨x0_1, x13_1, rfl, rfl, HA, HK1, BK135, HB⟩ := hrel
  cases gk with
  | zero => exact absurd HA.out (by simp [step_Run.l0])
  | succ k1 =>
   have H := HA.out
   clear HA
   simp only [step_Run.l0] at H
   by_cases c5 : x13_1 < (l1_0.length : Int)
   ·rw [if_pos c5] at H
    have c5b0 := decide_eq_true c5
    clear c5
    by_cases c6 : 0 ≤ x13_1
    ·rw [if_pos c6] at H
     have c6b0 := decide_eq_true c6
     clear c6
     by_cases c7 : x13_1 < (l1_0.length : Int)
     ·rw [if_pos c7] at H
      have c7b0 := decide_eq_true c7
      clear c7
      replace H := Option.bind_eq_some_iff.mp H
      obtain ⟨⟨t138, t139⟩, A80, H⟩ := H
      try dsimp only at H
      have A8 := aS_ A80
      clear A80
      by_cases c9 : t139 = 0
      ·rw [if_pos c9] at H
       have c9b0 := beq_iff_eq.mpr c9
       have c9b1 := bne_eq_false_iff_eq.mpr c9
       clear c9
       have H' := aS_ H
       clear H
       have p136 : 0 ≤ (x13_1 : Int) := of_decide_eq_true (by first | (with_reducible assumption) | assumption)
       have q136 : x13_1 < (l1_0.length : Int) := of_decide_eq_true (by first | (with_reducible assumption) | assumption)
       obtain ⟨ad136, e136, hx136_0, hx136_1, hx136_2⟩ := at_T88 HR1_0.out x13_1 p136 q136
       cases e136
       replace hx136_0 := (HB.out.cell (World.block_lt_of_cell? w _ hx136_0)).trans hx136_0
       replace hx136_1 := (HB.out.cell (World.block_lt_of_cell? w _ hx136_1)).trans hx136_1
       replace hx136_2 := (HB.out.cell (World.block_lt_of_cell? w _ hx136_2)).trans hx136_2
       replace p136 := eq_true p136
       replace q136 := eq_true q136
       go_wp2_with (first | (refine bx_ 7 #[.int .i64 0, .string (⟨#[]⟩ : ByteArray), .string (⟨#[]⟩ : ByteArray)] 88 ?_; intro gb137 hg w10 hbox hb; have BK137 := aS_ (hbox); have GW137 := ge_ hg (wk HB.out); have GE137 := ge_ hg (wk HB.out); replace HB := bw_ HB hb; have NB135_137 := nq_ hg (bk BK135.out); replace BK135 := bb_ BK135 hb; have NB137_135 := nr_ NB135_137; clear hb hbox hg; have hnb11 := NB137_135.out; have hnc11 := NB135_137.out; obtain ⟨hcz12_0, hcz12_1, hcz12_2, hfz12_0, hfz12_1, hfz12_2⟩ := c3_ BK137.out) | (refine cl_ (some 20) Try.func92 #[.string x0_1, .agg #[.int .i64 ((rd_T88 l1_0 x13_1).f0), .string ((rd_T88 l1_0 x13_1).f1), .string ((rd_T88 l1_0 x13_1).f2)]] ?_; (with_reducible refine (edit_Apply.calls k1 x0_1 ((rd_T88 l1_0 x13_1).f0) ((rd_T88 l1_0 x13_1).f1) ((rd_T88 l1_0 x13_1).f2) t138 t139 _ A8.out).mono ?_); rintro e w13 ⟨rfl, hb⟩; refine ⟨_, rfl, ?_⟩; replace BK135 := aS_ (blk_below (bq BK135.out) hb); replace BK137 := aS_ (blk_below (g := gb137) (o := .cells #[.int .i64 ((rd_T88 l1_0 x13_1).f0), .string ((rd_T88 l1_0 x13_1).f1), .string ((rd_T88 l1_0 x13_1).f2)] 88 (0, 0)) (bp BK137.out) hb); replace HB := bw_ HB hb; try clear hb))
       go_roundg k1
       case measure => have := HK1.out; omega
       case rel => exact ⟨(t138), (wrap64 (x13_1 + 1)), t0, t0, H', ⟨t2 HK1⟩, ⟨bq BK135.out⟩, ⟨wk HB.out⟩⟩
      ·rw [if_neg c9] at H
       have c9b0 := beq_eq_false_iff_ne.mpr c9
       have c9b1 := bne_iff_ne.mpr c9
       simp only [Option.some.injEq, Prod.mk.injEq] at H
       obtain ⟨rfl, rfl⟩ := H
       have p136 : 0 ≤ (x13_1 : Int) := of_decide_eq_true (by first | (with_reducible assumption) | assumption)
       have q136 : x13_1 < (l1_0.length : Int) := of_decide_eq_true (by first | (with_reducible assumption) | assumption)
       obtain ⟨ad136, e136, hx136_0, hx136_1, hx136_2⟩ := at_T88 HR1_0.out x13_1 p136 q136
       cases e136
       replace hx136_0 := (HB.out.cell (World.block_lt_of_cell? w _ hx136_0)).trans hx136_0
       replace hx136_1 := (HB.out.cell (World.block_lt_of_cell? w _ hx136_1)).trans hx136_1
       replace hx136_2 := (HB.out.cell (World.block_lt_of_cell? w _ hx136_2)).trans hx136_2
       replace p136 := eq_true p136
       replace q136 := eq_true q136
       go_wp2_with (first | (refine bx_ 7 #[.int .i64 0, .string (⟨#[]⟩ : ByteArray), .string (⟨#[]⟩ : ByteArray)] 88 ?_; intro gb137 hg w14 hbox hb; have BK137 := aS_ (hbox); have GW137 := ge_ hg (wk HB.out); have GE137 := ge_ hg (wk HB.out); replace HB := bw_ HB hb; have NB135_137 := nq_ hg (bk BK135.out); replace BK135 := bb_ BK135 hb; have NB137_135 := nr_ NB135_137; clear hb hbox hg; have hnb15 := NB137_135.out; have hnc15 := NB135_137.out; obtain ⟨hcz16_0, hcz16_1, hcz16_2, hfz16_0, hfz16_1, hfz16_2⟩ := c3_ BK137.out) | (refine cl_ (some 20) Try.func92 #[.string x0_1, .agg #[.int .i64 ((rd_T88 l1_0 x13_1).f0), .string ((rd_T88 l1_0 x13_1).f1), .string ((rd_T88 l1_0 x13_1).f2)]] ?_; (with_reducible refine (edit_Apply.calls k1 x0_1 ((rd_T88 l1_0 x13_1).f0) ((rd_T88 l1_0 x13_1).f1) ((rd_T88 l1_0 x13_1).f2) t138 t139 _ A8.out).mono ?_); rintro e w17 ⟨rfl, hb⟩; refine ⟨_, rfl, ?_⟩; replace BK135 := aS_ (blk_below (bq BK135.out) hb); replace BK137 := aS_ (blk_below (g := gb137) (o := .cells #[.int .i64 ((rd_T88 l1_0 x13_1).f0), .string ((rd_T88 l1_0 x13_1).f1), .string ((rd_T88 l1_0 x13_1).f2)] 88 (0, 0)) (bp BK137.out) hb); replace HB := bw_ HB hb; try clear hb))
       go_ret2
       exact ⟨t1, wk HB.out⟩
     ·rw [if_neg c7] at H
      exact absurd H (by simp)
    ·rw [if_neg c6] at H
     exact absurd H (by simp)
   ·rw [if_neg c5] at H
    have c5b0 := decide_eq_false c5
    clear c5
    simp only [Option.some.injEq, Prod.mk.injEq] at H
    obtain ⟨rfl, rfl⟩ := H
    go_wp2
    go_ret2
    exact ⟨t1, wk HB.out⟩
/-! ### step_Right: function 72 -/
def step_Right.f (k : Nat) (a0 : ByteArray) (l1_0 : List (S88)) : Option (Bool) := if (l1_0.length : Int) = 0 then (some false) else (if (l1_0.length : Int) > 32 then (some false) else ((step_Run.f k a0 l1_0).bind fun bt141 => (some (bt141.2 == 0))))
theorem step_Right.mono : ∀ a0 a1 k, LeO (step_Right.f k a0 a1) (step_Right.f (k + 1) a0 a1) := by
 intro a0 a1 k
 unfold step_Right.f
 repeat' first
   | (with_reducible exact step_Run.mono _ _ _)
   | (with_reducible exact LeO.refl _)
   | (with_reducible exact LeO.none _)
   | (with_reducible refine LeO.ite ?_ ?_)
   | (with_reducible refine LeO.bind ?_ (fun _ => ?_))
   | exact step_Run.mono _ _ _
   | exact LeO.none _
   | refine LeO.ite ?_ ?_
   | refine LeO.bind ?_ (fun _ => ?_)
set_option maxHeartbeats 8000000 in
set_option maxRecDepth 100000 in
theorem step_Right.calls (k : Nat) (a0 : ByteArray) (A1_0 : Option Addr) (c1_0 : Nat) (l1_0 : List (S88)) (r : Bool) (w : World) (hr1_0 : Kd.C k88 w A1_0 l1_0.length l1_0) (hc1_0 : l1_0.length ≤ c1_0) (h : step_Right.f k a0 l1_0 = some r) :
  Calls Try.prog 72 #[.string a0, .agg #[.slice A1_0 l1_0.length c1_0]] w fun e w' => e = .returned (.bool r) ∧ Below w.heap.size w w' := by
 have hu38 := Try.underlying38
 have HR1_0 := aS_ hr1_0
 have HC1_0 := aS_ hc1_0
 clear hr1_0 hc1_0
 have HB := aS_ (Below.refl w.heap.size w)
 have H : (if (l1_0.length : Int) = 0 then (some false) else (if (l1_0.length : Int) > 32 then (some false) else ((step_Run.f k a0 l1_0).bind fun bt141 => (some (bt141.2 == 0))))) = some r := h
 clear h
 by_cases c3 : (l1_0.length : Int) = 0
 ·rw [if_pos c3] at H
  have c3b0 := beq_iff_eq.mpr c3
  have c3b1 := bne_eq_false_iff_eq.mpr c3
  clear c3
  obtain rfl := Option.some.inj H
  go_enter Try.func72, Try.ntmps72
  go_wp2_with (first | (refine bx_ 3 #[.slice A1_0 l1_0.length c1_0] 38 ?_; intro gb140 hg w4 hbox hb; have BK140 := aS_ (hbox); have GW140 := ge_ hg (wk HB.out); have GE140 := ge_ hg (wk HB.out); replace HB := bw_ HB hb; clear hb hbox hg; obtain ⟨hcz5_0, hfz5_0⟩ := c1_ BK140.out))
  go_ret
  exact ⟨t1, wk HB.out⟩
 ·rw [if_neg c3] at H
  have c3b0 := beq_eq_false_iff_ne.mpr c3
  have c3b1 := bne_iff_ne.mpr c3
  have c3b2 : ¬ (l1_0 = []) := fun h_ => c3 (by rw [h_]; rfl)
  by_cases c6 : (l1_0.length : Int) > 32
  ·rw [if_pos c6] at H
   have c6b0 := decide_eq_true c6
   have c6b1 : decide (32 < l1_0.length) = true := decide_eq_true (by omega)
   clear c6
   obtain rfl := Option.some.inj H
   go_enter Try.func72, Try.ntmps72
   go_wp2_with (first | (refine bx_ 3 #[.slice A1_0 l1_0.length c1_0] 38 ?_; intro gb140 hg w7 hbox hb; have BK140 := aS_ (hbox); have GW140 := ge_ hg (wk HB.out); have GE140 := ge_ hg (wk HB.out); replace HB := bw_ HB hb; clear hb hbox hg; obtain ⟨hcz8_0, hfz8_0⟩ := c1_ BK140.out))
   go_ret
   exact ⟨t1, wk HB.out⟩
  ·rw [if_neg c6] at H
   have c6b0 := decide_eq_false c6
   have c6b1 : decide (32 < l1_0.length) = false := decide_eq_false (by omega)
   clear c6
   replace H := Option.bind_eq_some_iff.mp H
   obtain ⟨⟨t141, t142⟩, A90, H⟩ := H
   try dsimp only at H
   have A9 := aS_ A90
   clear A90
   obtain rfl := Option.some.inj H
   go_enter Try.func72, Try.ntmps72
   go_wp2_with (first | (refine bx_ 3 #[.slice A1_0 l1_0.length c1_0] 38 ?_; intro gb140 hg w10 hbox hb; have BK140 := aS_ (hbox); have GW140 := ge_ hg (wk HB.out); have GE140 := ge_ hg (wk HB.out); replace HB := bw_ HB hb; clear hb hbox hg; obtain ⟨hcz11_0, hfz11_0⟩ := c1_ BK140.out) | (refine cl_ (some 20) Try.func73 #[.string a0, .agg #[.slice A1_0 l1_0.length c1_0]] ?_; (with_reducible refine (step_Run.calls k a0 _ _ l1_0 t141 t142 _ ?side1 ?side2 A9.out).mono ?_); (case side1 => repeat (first | exact (Kd.C_below HR1_0.out HB.out) | (with_reducible refine Kd.C_alloc ?_ _) | (with_reducible refine Kd.C_drewN ?_ _) | (with_reducible refine Kd.C_drew ?_))); (case side2 => exact HC1_0.out); rintro e w12 ⟨rfl, hb⟩; refine ⟨_, rfl, ?_⟩; replace BK140 := bb_ BK140 hb; replace HB := bw_ HB hb; try clear hb))
   go_ret
   exact ⟨t1, wk HB.out⟩
/-- A state of type 122 at block g of W; what its slices lead to came in by w0. -/
def IsS122 (w0 W : World) (g : Nat) (f0 : List (S38)) (f1 : Int) : Prop := ∃ A0 c0, W.heap[g]? = some (.cells #[.slice A0 f0.length c0, .int .i64 f1] 122 (0, 0)) ∧ w0.heap.size ≤ g ∧ Kd.C k38 w0 A0 f0.length f0
theorem IsS122.grown {w0 W : World} {g : Nat} {f0 : List (S38)} {f1 : Int} {W1 : World} {row : Option Nat} (h : IsS122 w0 W g f0 f1) (hw : W.grownBy W1 row) (hne : some g ≠ row) : IsS122 w0 W1 g f0 f1 := by
 obtain ⟨A0, c0, hb, hg, hr0⟩ := h
 exact ⟨A0, c0, blk_grown hb hw hne, hg, hr0⟩
theorem IsS122.kept {w0 W : World} {g : Nat} {f0 : List (S38)} {f1 : Int} {W1 : World} {S : Nat → Prop} (h : IsS122 w0 W g f0 f1) (hk : Kept W W1 S) (hne : ¬ S g) : IsS122 w0 W1 g f0 f1 := by
 obtain ⟨A0, c0, hb, hg, hr0⟩ := h
 exact ⟨A0, c0, blk_kept hb hk hne, hg, hr0⟩
theorem IsS122.below {w0 W : World} {g : Nat} {f0 : List (S38)} {f1 : Int} {W1 : World} (h : IsS122 w0 W g f0 f1) (hw : Below W.heap.size W W1) : IsS122 w0 W1 g f0 f1 := h.grown (grown_of_below hw none) (by simp)
theorem IsS122.alloc {w0 W : World} {g : Nat} {f0 : List (S38)} {f1 : Int} (h : IsS122 w0 W g f0 f1) (o : Obj) : IsS122 w0 (W.alloc o) g f0 f1 := h.below (wA (Below.refl _ _) o)
theorem IsS122.drewN {w0 W : World} {g : Nat} {f0 : List (S38)} {f1 : Int} (h : IsS122 w0 W g f0 f1) (m : Nat) : IsS122 w0 (W.drewN m) g f0 f1 := h
theorem IsS122.drew {w0 W : World} {g : Nat} {f0 : List (S38)} {f1 : Int} (h : IsS122 w0 W g f0 f1) : IsS122 w0 W.drew g f0 f1 := h
theorem IsS122.at_ {w0 W : World} {g : Nat} {f0 : List (S38)} {f1 : Int} {w' : World} {m : Nat} (hq : W.drewN m = w') (h : IsS122 w0 W g f0 f1) : IsS122 w0 w' g f0 f1 := by subst hq; exact IsS122.drewN h m
theorem IsS122.apart {w0 W : World} {g : Nat} {f0 : List (S38)} {f1 : Int} {α : Type} {d : Kd α} {e : Nat} {base : Nat} {ok : Nat → Prop} {v : Value} {xs : List α} (h : IsS122 w0 W g f0 f1) (ho : d.R e W base ok v xs) (ht : ∀ q, q ∈ e :: d.E → q ≠ 122) : d.R e W base (fun k => ok k ∧ k ≠ g) v xs := by
 obtain ⟨A0, c0, hb, hg, hr0⟩ := h
 exact Kd.R_types ho hb ht
theorem IsS122.own_ne {w0 W : World} {g : Nat} {f0 : List (S38)} {f1 : Int} {α : Type} {d : Kd α} {e : Nat} {base : Nat} {ok : Nat → Prop} {v : Value} {xs : List α} (h : IsS122 w0 W g f0 f1) (ho : d.R e W base ok v xs) (ht : e ≠ 122) : some g ≠ v.ownBlock := by
 obtain ⟨A0, c0, hb, hg, hr0⟩ := h
 exact Kd.R_ne ho hb ht
theorem IsS122.lt {w0 W : World} {g : Nat} {f0 : List (S38)} {f1 : Int} (h : IsS122 w0 W g f0 f1) : g < W.heap.size := by
 obtain ⟨A0, c0, hb, hg, hr0⟩ := h
 exact blk_lt hb
theorem IsS122.ge {w0 W : World} {g : Nat} {f0 : List (S38)} {f1 : Int} (h : IsS122 w0 W g f0 f1) : w0.heap.size ≤ g := by
 obtain ⟨A0, c0, hb, hg, hr0⟩ := h
 exact hg
theorem IsS122.far {w0 W : World} {g : Nat} {f0 : List (S38)} {f1 : Int} {p : Addr} (h : IsS122 w0 W g f0 f1) (hne : g ≠ p.block) (u : Value) : IsS122 w0 (W.setCell p u) g f0 f1 := by
 obtain ⟨A0, c0, hb, hg, hr0⟩ := h
 exact ⟨A0, c0, blk_far hb hne u, hg, hr0⟩
theorem IsS122.new (w0 W : World) (A0 : Option Addr) (c0 : Nat) (f0 : List (S38)) (f1 : Int) (hB : Below w0.heap.size w0 W) (hr0 : Kd.C k38 w0 A0 f0.length f0) : IsS122 w0 (W.alloc (.cells #[.slice A0 f0.length c0, .int .i64 f1] 122)) W.heap.size f0 f1 := ⟨A0, c0, by simpa using heap_alloc_new W _, hB.size, hr0⟩
/-! ### stack_pile_api_Step_pop: function 87 -/
theorem pop_keep {w w6 : World} {g : Nat} (h : Below w.heap.size w w6) (hg : g < w.heap.size) (u : Value) : Below g w (w6.setCell ⟨g, 0, none⟩ u) := (h.mono (Nat.le_of_lt hg)).setCell (p := ⟨g, 0, none⟩) (Nat.le_refl _) u
theorem stack_take (W : World) (A : Option Addr) (n c m : Nat) (h : m ≤ n) (hc : n ≤ c) : (Instr.slice 23 (.slice A n c) none (some (.int .i64 (m : Int))) none).run Try.prog W = .ok (.slice A m c) W := by
 have hu := Try.underlying23
 have h2 : m ≤ c := Nat.le_trans h hc
 have hm : A.map (fun z : Addr => z.add 0) = A := by
  cases A with
  | none => rfl
  | some ad => cases ad with | mk b o f => cases f <;> rfl
 by_cases z : c = 0
 ·subst z
  obtain rfl : m = 0 := by omega
  simp [Instr.slice, Instr.sliceBounds, Instr.sliceBound, asIntOf, hu]
 ·simp [Instr.slice, Instr.sliceBounds, Instr.sliceBound, asIntOf, hu, h2, z, hm]
set_option maxHeartbeats 8000000 in
set_option maxRecDepth 100000 in
theorem stack_pile_api_Step_pop.none_ (g : Nat) (A : Option Addr) (c : Nat) (w : World) (hg : w.heap[g]? = some (.cells #[.slice A 0 c, .int .i64 16] 122 (0, 0))) :
  Calls Try.prog 87 #[.pointer (some ⟨g, 0, none⟩)] w fun e w' => e = .returned (.tuple #[.agg #[.slice none 0 0], .bool false]) ∧ w'.heap[g]? = some (.cells #[.slice A 0 c, .int .i64 16] 122 (0, 0)) ∧ Below w.heap.size w w' := by
 have huS := Try.underlying38
 have huP := Try.underlying122
 have KG := aS_ hg
 have h0 := (blk_cell (bA (bA hg (.cells #[.slice none 0 0] 38)) (.cells #[.slice none 0 0] 38)) 0).trans rfl
 clear hg
 go_enter Try.func87, Try.ntmps87
 have z0 : ((w.alloc (.cells #[.slice none 0 0] 38)).alloc (.cells #[.slice none 0 0] 38)).heap[w.heap.size]? = some (.cells #[.slice none 0 0] 38 (0, 0)) := bA (heap_alloc_new _ _) _
 have z1 : ((w.alloc (.cells #[.slice none 0 0] 38)).alloc (.cells #[.slice none 0 0] 38)).heap[w.heap.size + 1]? = some (.cells #[.slice none 0 0] 38 (0, 0)) := by
  simpa using heap_alloc_new (w.alloc (.cells #[.slice none 0 0] 38)) (.cells #[.slice none 0 0] 38)
 have Z0 := aS_ z0
 have s0 := (blk_cell z0 0).trans rfl
 have f0 := blk_frozen z0 0
 have s1 := (blk_cell z1 0).trans rfl
 clear z0 z1
 go_wp2_with fail
 refine bodyPost_ret (results_ct rfl _ _ w.heap.size 38 #[.slice none 0 0] (0, 0) _ rfl Z0.out Try.underlying38 rfl (by kernel_rfl)) rfl ?_
 exact ⟨rfl, bA (bA KG.out _) _, wA (wA (Below.refl _ _) _) _⟩
set_option maxHeartbeats 8000000 in
set_option maxRecDepth 100000 in
theorem stack_pile_api_Step_pop.some_ (g : Nat) (A : Option Addr) (c m : Nat) (l : List S38) (w0 w : World) (hb0 : Below w0.heap.size w0 w) (hg : w.heap[g]? = some (.cells #[.slice A (m + 1) c, .int .i64 16] 122 (0, 0)))
  (hC : Kd.C k38 w0 A (m + 1) l) (hc : m + 1 ≤ c) (hm : m ≤ 1000) :
  Calls Try.prog 87 #[.pointer (some ⟨g, 0, none⟩)] w fun e w' => (∃ At ct, e = .returned (.tuple #[.agg #[.slice At (rd_T38 l (m : Int)).f0.length ct], .bool true]) ∧ (rd_T38 l (m : Int)).f0.length ≤ ct ∧ Kd.C k88 w0 At (rd_T38 l (m : Int)).f0.length (rd_T38 l (m : Int)).f0) ∧
   w'.heap[g]? = some (.cells #[.slice A m c, .int .i64 16] 122 (0, 0)) ∧ Below g w w' := by
 have huS := Try.underlying38
 have huP := Try.underlying122
 obtain ⟨ad, At, ct, rfl, hx, hct, hCt⟩ := at_T38 hC (m : Int) (by omega) (by omega)
 rw [Int.toNat_natCast] at hx
 have hx := (hb0.cell (World.block_lt_of_cell? w0 _ hx)).trans hx
 have KG := aS_ hg
 have HCT := aS_ hct
 have HCt := aS_ hCt
 have HX := aS_ hx
 have hgl := blk_lt hg
 have HGL := aS_ hgl
 have hw : wrap64 ((m : Int) + 1 - 1) = (m : Int) := by unfold wrap64; omega
 have hw2 : wrap64 (((m + 1 : Nat) : Int) - 1) = (m : Int) := by unfold wrap64; omega
 generalize (rd_T38 l (m : Int)).f0 = lt at *
 clear hct hCt hC
 have a1 := fun (o : Obj) (W : World) (h : W.heap[g]? = some (.cells #[.slice (some ad) (m + 1) c, .int .i64 16] 122 (0, 0))) => bA h o
 have k2 := bA (bA hg (.cells #[.slice none 0 0] 38)) (.cells #[.slice none 0 0] 38)
 have h0 := (blk_cell k2 0).trans rfl
 have hb2 := wA (wA (Below.refl w.heap.size w) (.cells #[.slice none 0 0] 38)) (.cells #[.slice none 0 0] 38)
 have x2 := (hb2.cell (World.block_lt_of_cell? w _ hx)).trans hx
 have c0 : decide ((m : Int) < 0) = false := decide_eq_false (by omega)
 have q0 : (0 ≤ (m : Int)) = True := eq_true (by omega)
 have q1 : ((m : Int) < (m : Int) + 1) = True := eq_true (by omega)
 have q2 : (m < m + 1) = True := eq_true (by omega)
 clear hg hx hb2 k2 a1
 go_enter Try.func87, Try.ntmps87
 go_upto_region 5 with fail
 go_cut [6] (fun v6 wx => v6 = .pointer (some ⟨w.heap.size + 1 + 1, 0, none⟩) ∧ Aside0 (wx.heap[w.heap.size]? = some (.cells #[.slice none 0 0] 38 (0, 0)) ∧ wx.heap[w.heap.size + 1 + 1]? = some (.cells #[.slice At lt.length ct] 38 (0, 0)) ∧ wx.heap[g]? = some (.cells #[.slice (some ad) (m + 1) c, .int .i64 16] 122 (0, 0)) ∧ Below w.heap.size w wx))
 case first =>
  go_wp2_with fail
  go_meet
  refine ⟨rfl, ⟨bA (bA (heap_alloc_new _ _) _) _, ?_, bA (bA (bA KG.out _) _) _, wA (wA (wA (Below.refl _ _) _) _) _⟩⟩
  simpa using heap_alloc_new ((w.alloc (.cells #[.slice none 0 0] 38)).alloc (.cells #[.slice none 0 0] 38)) (.cells #[.slice At lt.length ct] 38)
 obtain ⟨rfl, hcut⟩ := hcut
 have K2 := aS_ hcut.out.1
 have K6 := aS_ hcut.out.2.1
 have KG2 := aS_ hcut.out.2.2.1
 have KB := aS_ hcut.out.2.2.2
 clear hcut h0 x2 KG
 have h0 := (blk_cell KG2.out 0).trans rfl
 have f0 := blk_frozen KG2.out 0
 have htk : ∀ W, (Instr.slice 23 (.slice (some ad) (m + 1) c) none (some (.int .i64 (m : Int))) none).run Try.prog W = .ok (.slice (some ad) m c) W := fun W => stack_take W (some ad) (m + 1) c m (by omega) hc
 have hne : g ≠ w.heap.size := Nat.ne_of_lt HGL.out
 have hne6 : w.heap.size + 1 + 1 ≠ g := by have := HGL.out; omega
 have hne62 : w.heap.size + 1 + 1 ≠ w.heap.size := by omega
 go_upto_region 7 with fail
 have K2' := aS_ (blk_far K2.out (p := ⟨g, 0, none⟩) hne.symm (.slice (some ad) m c))
 have K6' := aS_ (blk_far K6.out (p := ⟨g, 0, none⟩) hne6 (.slice (some ad) m c))
 have KG3 := aS_ (blk_put (cs' := #[.slice (some ad) m c, .int .i64 16]) KG2.out 0 (.slice (some ad) m c) rfl)
 have HK := aS_ (pop_keep (g := g) KB.out HGL.out (.slice (some ad) m c))
 clear h0 f0 htk K2 K6 KG2
 generalize wc.setCell ⟨g, 0, none⟩ (.slice (some ad) m c) = w7 at K2' K6' KG3 HK ⊢
 have h6 := (blk_cell K6'.out 0).trans rfl
 have h2 := (blk_cell K2'.out 0).trans rfl
 have f2 := blk_frozen K2'.out 0
 go_wp2_with fail
 refine bodyPost_ret (results_ct rfl _ _ w.heap.size 38 #[.slice At lt.length ct] (0, 0) _ rfl (blk_put (cs' := #[.slice At lt.length ct]) K2'.out 0 (.slice At lt.length ct) rfl) Try.underlying38 rfl (by kernel_rfl)) rfl ?_
 exact ⟨⟨_, _, rfl, HCT.out, HCt.out⟩, blk_far KG3.out (p := ⟨w.heap.size, 0, none⟩) hne _, HK.out.setCell (p := ⟨w.heap.size, 0, none⟩) (Nat.le_of_lt HGL.out) _⟩
theorem stack_steps_own (A : Option Addr) (n c : Nat) (w : World) :
  Calls Try.prog 86 #[.slice A n c] w fun e w' => e = .returned (.pointer (some ⟨w.heap.size, 0, none⟩)) ∧ w' = w.alloc (.cells #[.slice A n c, .int .i64 16] 122 (0, 0)) := by
 have huP := Try.underlying122
 go_enter Try.func86, Try.ntmps86
 go_wp2_with fail
 go_ret
 exact ⟨rfl, rfl⟩
end Go.Proofs.Ytnndanfghlnpfaa.P
