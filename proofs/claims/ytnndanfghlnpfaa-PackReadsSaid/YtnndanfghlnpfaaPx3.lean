import Derived.Test.YtnndanfghlnpfaaPx0
namespace Go.Proofs.Ytnndanfghlnpfaa.P
open Go.RowKit Go.Proofs.YtnndanfghlnpfaaW.PrintWords Go.Proofs.YtnndanfghlnpfaaW.PrintLast Go.Proofs.YtnndanfghlnpfaaW.PrintMore
attribute [local go_sem] max2_int min2_int max_two min_two max_three min_three max_four min_four   -- for this text's walks alone
set_option linter.unusedVariables false
set_option linter.unusedSimpArgs false
/-! ### sr25Few: function 6 -/

/-! ### edit_Inverse: function 88 -/
def edit_Inverse.f (a0_0 : Int) (a0_1 : ByteArray) (a0_2 : ByteArray) : Option (Int × ByteArray × ByteArray) := some (a0_0, a0_2, a0_1)
set_option maxHeartbeats 8000000 in
set_option maxRecDepth 100000 in
theorem edit_Inverse.calls (a0_0 : Int) (a0_1 : ByteArray) (a0_2 : ByteArray) (r1 : Int) (r2 : ByteArray) (r3 : ByteArray) (w : World) (h : edit_Inverse.f a0_0 a0_1 a0_2 = some (r1, r2, r3)) :
  Calls Try.prog 88 #[.agg #[.int .i64 a0_0, .string a0_1, .string a0_2]] w fun e w' => e = .returned (.agg #[.int .i64 r1, .string r2, .string r3]) ∧ Below w.heap.size w w' := by
 have hu88 := Try.underlying88
 have HB := aS_ (Below.refl w.heap.size w)
 have H : (some (a0_0, a0_2, a0_1)) = some (r1, r2, r3) := h
 clear h
 simp only [Option.some.injEq, Prod.mk.injEq] at H
 obtain ⟨rfl, rfl, rfl⟩ := H
 go_enter Try.func88, Try.ntmps88
 go_wp2_with (first | (refine bx_ 1 #[.int .i64 a0_0, .string a0_1, .string a0_2] 88 ?_; intro gb104 hg w2 hbox hb; have BK104 := aS_ (hbox); have GW104 := ge_ hg (wk HB.out); have GE104 := ge_ hg (wk HB.out); replace HB := bw_ HB hb; clear hb hbox hg) | (refine bx_ 2 #[.int .i64 0, .string (⟨#[]⟩ : ByteArray), .string (⟨#[]⟩ : ByteArray)] 88 ?_; intro gb105 hg w3 hbox hb; have BK105 := aS_ (hbox); have GW105 := ge_ hg (wk HB.out); have GE105 := ge_ hg (wk HB.out); replace HB := bw_ HB hb; have NB104_105 := nq_ hg (bk BK104.out); replace BK104 := bb_ BK104 hb; have NB105_104 := nr_ NB104_105; clear hb hbox hg; have hnb4 := NB104_105.out; have hnc4 := NB105_104.out; obtain ⟨hcz5_0, hcz5_1, hcz5_2, hfz5_0, hfz5_1, hfz5_2⟩ := c3_ BK104.out; obtain ⟨hcz6_0, hcz6_1, hcz6_2, hfz6_0, hfz6_1, hfz6_2⟩ := c3_ BK105.out))
 refine bodyPost_ret (results_cell_row rfl _ _ gb105 88 #[.int .i64 a0_0, .string a0_2, .string a0_1] (0, 0) _ rfl (bp BK105.out) Try.underlying88 rfl (by kernel_rfl)) rfl ?_
 exact ⟨t1, wk HB.out⟩
end Go.Proofs.Ytnndanfghlnpfaa.P
