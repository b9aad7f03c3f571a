import Derived.Test.YtnndanfghlnpfaaPx0
import Derived.Test.YtnndanfghlnpfaaPx9
import Derived.Test.YtnndanfghlnpfaaPx11
namespace Go.Proofs.Ytnndanfghlnpfaa.P
open Go.RowKit Go.Proofs.YtnndanfghlnpfaaW.PrintWords Go.Proofs.YtnndanfghlnpfaaW.PrintLast Go.Proofs.YtnndanfghlnpfaaW.PrintMore
attribute [local go_sem] max2_int min2_int max_two min_two max_three min_three max_four min_four   -- for this text's walks alone
set_option linter.unusedVariables false
set_option linter.unusedSimpArgs false
/-! ### sl28lives: function 7 -/
def sl28lives.f (k : Nat)  : Option (Bool) := (pack_Lay.f k (⟨#[]⟩ : ByteArray) ([] : List (S49)) ([] : List (S38)) ([] : List (S38)) false ([] : List (S88))).bind fun bt180 => ((pack_Read.f k bt180.1).bind fun bt182 => ((pack_Read.f k (⟨#[]⟩ : ByteArray)).bind fun bt198 => (if 13 ≤ 281474976710656 then (if bt180.1.toList = (strOfNums (List.replicate 13 0)).toList then (if bt180.2 = 0 then (if bt182.2.2.2.2.2.2 = 0 then (if bt182.1.toList = ([] : List UInt8) then (some (bt198.2.2.2.2.2.2 == 18)) else (none)) else (none)) else (none)) else (none)) else (none))))
theorem sl28lives.mono : ∀ k, LeO (sl28lives.f k ) (sl28lives.f (k + 1) ) := by
 intro  k
 unfold sl28lives.f
 repeat' first
   | (with_reducible exact pack_Lay.mono _ _ _ _ _ _ _)
   | (with_reducible exact pack_Read.mono _ _)
   | (with_reducible exact LeO.refl _)
   | (with_reducible exact LeO.none _)
   | (with_reducible refine LeO.ite ?_ ?_)
   | (with_reducible refine LeO.bind ?_ (fun _ => ?_))
   | exact pack_Lay.mono _ _ _ _ _ _ _
   | exact pack_Read.mono _ _
   | exact LeO.none _
   | refine LeO.ite ?_ ?_
   | refine LeO.bind ?_ (fun _ => ?_)
set_option maxHeartbeats 8000000 in
set_option maxRecDepth 100000 in
theorem sl28lives.calls (k : Nat)  (r : Bool) (w : World) (h : sl28lives.f k  = some r) :
  Calls Try.prog 7 #[] w fun e w' => e = .returned (.bool r) ∧ Below w.heap.size w w' := by
 have hu26 := Try.underlying26
 have HB := aS_ (Below.refl w.heap.size w)
 have H : ((pack_Lay.f k (⟨#[]⟩ : ByteArray) ([] : List (S49)) ([] : List (S38)) ([] : List (S38)) false ([] : List (S88))).bind fun bt180 => ((pack_Read.f k bt180.1).bind fun bt182 => ((pack_Read.f k (⟨#[]⟩ : ByteArray)).bind fun bt198 => (if 13 ≤ 281474976710656 then (if bt180.1.toList = (strOfNums (List.replicate 13 0)).toList then (if bt180.2 = 0 then (if bt182.2.2.2.2.2.2 = 0 then (if bt182.1.toList = ([] : List UInt8) then (some (bt198.2.2.2.2.2.2 == 18)) else (none)) else (none)) else (none)) else (none)) else (none))))) = some r := h
 clear h
 replace H := Option.bind_eq_some_iff.mp H
 obtain ⟨⟨t180, t181⟩, A10, H⟩ := H
 try dsimp only at H
 have A1 := aS_ A10
 clear A10
 replace H := Option.bind_eq_some_iff.mp H
 obtain ⟨⟨t182, t183, t186, t189, t192, t193, t196⟩, A20, H⟩ := H
 try dsimp only at H
 have A2 := aS_ A20
 clear A20
 replace H := Option.bind_eq_some_iff.mp H
 obtain ⟨⟨t198, t199, t202, t205, t208, t209, t212⟩, A30, H⟩ := H
 try dsimp only at H
 have A3 := aS_ A30
 clear A30
 by_cases c4 : 13 ≤ 281474976710656
 ·rw [if_pos c4] at H
  have c4b0 := eq_true c4
  have c4b1 := decide_eq_true c4
  clear c4
  obtain ⟨y214, hy214⟩ : ∃ y_ : List Int, y_ = (List.replicate 13 0) := ⟨_, rfl⟩
  replace H : (if t180.toList = (strOfNums y214).toList then (if t181 = 0 then (if t196 = 0 then (if t182.toList = ([] : List UInt8) then (some (t212 == 18)) else (none)) else (none)) else (none)) else (none)) = some r := by first | (rw [hy214]; with_reducible exact H) | (have H2_ := (Option.bind_some _ _).symm.trans H; rw [hy214]; with_reducible exact H2_) | (have H2_ := (Option.bind_some _ _).symm.trans H; with_reducible exact H2_) | with_reducible exact H | (rw [hy214]; exact H) | exact H
  have Ny214 := aS_ hy214
  clear hy214
  by_cases c5 : t180.toList = (strOfNums y214).toList
  ·rw [if_pos c5] at H
   have c5b0 := beq_iff_eq.mpr c5
   have c5b1 := bne_eq_false_iff_eq.mpr c5
   clear c5
   by_cases c6 : t181 = 0
   ·rw [if_pos c6] at H
    have c6b0 := beq_iff_eq.mpr c6
    have c6b1 := bne_eq_false_iff_eq.mpr c6
    clear c6
    by_cases c7 : t196 = 0
    ·rw [if_pos c7] at H
     have c7b0 := beq_iff_eq.mpr c7
     have c7b1 := bne_eq_false_iff_eq.mpr c7
     clear c7
     by_cases c8 : t182.toList = ([] : List UInt8)
     ·rw [if_pos c8] at H
      have c8b0 := beq_iff_eq.mpr c8
      have c8b1 := bne_eq_false_iff_eq.mpr c8
      clear c8
      obtain rfl := Option.some.inj H
      go_enter Try.func7, Try.ntmps7
      go_wp2_with (first | (refine cl_ (some 9) Try.func8 #[.agg #[.string (⟨#[]⟩ : ByteArray), .slice none 0 0, .slice none 0 0, .slice none 0 0, .bool false, .slice none 0 0]] ?_; (refine (pack_Lay.calls k (⟨#[]⟩ : ByteArray) _ _ ([] : List (S49)) _ _ ([] : List (S38)) _ _ ([] : List (S38)) false _ _ ([] : List (S88)) t180 t181 _ ?side1 ?side2 ?side3 ?side4 ?side5 ?side6 ?side7 ?side8 A1.out).mono ?_); (case side1 => exact Kd.C_nil _ _); (case side2 => exact Nat.le_refl _); (case side3 => exact Kd.C_nil _ _); (case side4 => exact Nat.le_refl _); (case side5 => exact Kd.C_nil _ _); (case side6 => exact Nat.le_refl _); (case side7 => exact Kd.C_nil _ _); (case side8 => exact Nat.le_refl _); rintro e w9 ⟨rfl, hb⟩; refine ⟨_, rfl, ?_⟩; replace HB := bw_ HB hb; try clear hb) | (refine cl_ (some 14) Try.func10 #[.string t180] ?_; (with_reducible refine (pack_Read.calls k t180 t182 t183 t186 t189 t192 t193 t196 _ A2.out).mono ?_); rintro e w10 ⟨v184, v187, v190, v194, rfl, ho0, ho1, ho2, ho3, hb⟩; refine ⟨_, rfl, ?_⟩; have HO185 := aS_ (Kd.R_lower ho0 (below_size (wk HB.out))); have HO188 := aS_ (Kd.S_lower ho1 (below_size (wk HB.out))); have HO191 := aS_ (Kd.S_lower ho2 (below_size (wk HB.out))); have HO195 := aS_ (Kd.R_lower ho3 (below_size (wk HB.out))); replace HB := bw_ HB hb; try clear hb; (try clear ho0); (try clear ho1); (try clear ho2); (try clear ho3)) | (refine bx_ 3 #[.string (⟨#[]⟩ : ByteArray), .slice none 0 0, .slice none 0 0, .slice none 0 0, .bool false, .slice none 0 0] 26 ?_; intro gb197 hg w11 hbox hb; replace HO185 := rb_ HO185 hb; replace HO188 := sb_ HO188 hb; replace HO191 := sb_ HO191 hb; replace HO195 := rb_ HO195 hb; have BK197 := aS_ (hbox); have GW197 := ge_ hg (wk HB.out); have GE197 := ge_ hg (wk HB.out); replace HB := bw_ HB hb; clear hb hbox hg; obtain ⟨hcz12_0, hcz12_1, hcz12_2, hcz12_3, hcz12_4, hcz12_5, hfz12_0, hfz12_1, hfz12_2, hfz12_3, hfz12_4, hfz12_5⟩ := c6_ BK197.out; obtain ⟨Ao13, co13, eo13⟩ := Kd.R_slice HO185.out; subst eo13; obtain ⟨Ao14, co14, eo14⟩ := Kd.S_slice HO188.out; subst eo14; obtain ⟨Ao15, co15, eo15⟩ := Kd.S_slice HO191.out; subst eo15; obtain ⟨Ao16, co16, eo16⟩ := Kd.R_slice HO195.out; subst eo16) | (refine cl_ (some 18) Try.func10 #[.string (⟨#[]⟩ : ByteArray)] ?_; (with_reducible refine (pack_Read.calls k (⟨#[]⟩ : ByteArray) t198 t199 t202 t205 t208 t209 t212 _ A3.out).mono ?_); rintro e w17 ⟨v200, v203, v206, v210, rfl, ho0, ho1, ho2, ho3, hb⟩; refine ⟨_, rfl, ?_⟩; have HO201 := aS_ (Kd.R_lower (Kd.R_new' ho0 (Kd.R_lt (by (with_reducible repeat (first | apply Kd.R_alloc | apply Kd.R_drewN | apply Kd.R_drew)); exact (Kd.R_mono (Kd.R_far (p := ⟨gb197, 5, none⟩) (Kd.R_far (p := ⟨gb197, 4, none⟩) (Kd.R_far (p := ⟨gb197, 3, none⟩) (Kd.R_far (p := ⟨gb197, 2, none⟩) (Kd.R_far (p := ⟨gb197, 1, none⟩) (Kd.R_far (p := ⟨gb197, 0, none⟩) (Kd.R_types HO185.out BK197.out (by decide)) (fun _ hk => hk.2) (.string t182)) (fun _ hk => hk.2) (.slice Ao13 t183.length co13)) (fun _ hk => hk.2) (.slice Ao14 t186.length co14)) (fun _ hk => hk.2) (.slice Ao15 t189.length co15)) (fun _ hk => hk.2) (.bool t192)) (fun _ hk => hk.2) (.slice Ao16 t193.length co16)) (fun _ h_ => h_.1))))) (below_size (wk HB.out))); replace HO185 := aS_ (Kd.R_elder' (by (with_reducible repeat (first | apply Kd.R_alloc | apply Kd.R_drewN | apply Kd.R_drew)); exact (Kd.R_mono (Kd.R_far (p := ⟨gb197, 5, none⟩) (Kd.R_far (p := ⟨gb197, 4, none⟩) (Kd.R_far (p := ⟨gb197, 3, none⟩) (Kd.R_far (p := ⟨gb197, 2, none⟩) (Kd.R_far (p := ⟨gb197, 1, none⟩) (Kd.R_far (p := ⟨gb197, 0, none⟩) (Kd.R_types HO185.out BK197.out (by decide)) (fun _ hk => hk.2) (.string t182)) (fun _ hk => hk.2) (.slice Ao13 t183.length co13)) (fun _ hk => hk.2) (.slice Ao14 t186.length co14)) (fun _ hk => hk.2) (.slice Ao15 t189.length co15)) (fun _ hk => hk.2) (.bool t192)) (fun _ hk => hk.2) (.slice Ao16 t193.length co16)) (fun _ h_ => h_.1))) (Kd.R_base ho0) hb); have HO204 := aS_ (Kd.S_lower (Kd.S_new' (Kd.S_new' (Kd.S_new' ho1 (Kd.S_lt (by (with_reducible repeat (first | apply Kd.S_alloc | apply Kd.S_drewN | apply Kd.S_drew)); exact (Kd.S_mono (Kd.S_far (p := ⟨gb197, 5, none⟩) (Kd.S_far (p := ⟨gb197, 4, none⟩) (Kd.S_far (p := ⟨gb197, 3, none⟩) (Kd.S_far (p := ⟨gb197, 2, none⟩) (Kd.S_far (p := ⟨gb197, 1, none⟩) (Kd.S_far (p := ⟨gb197, 0, none⟩) (Kd.S_types HO188.out BK197.out (by decide)) (fun _ hk => hk.2) (.string t182)) (fun _ hk => hk.2) (.slice Ao13 t183.length co13)) (fun _ hk => hk.2) (.slice Ao14 t186.length co14)) (fun _ hk => hk.2) (.slice Ao15 t189.length co15)) (fun _ hk => hk.2) (.bool t192)) (fun _ hk => hk.2) (.slice Ao16 t193.length co16)) (fun _ h_ => h_.1))))) (Kd.S_lt (by (with_reducible repeat (first | apply Kd.S_alloc | apply Kd.S_drewN | apply Kd.S_drew)); exact (Kd.S_mono (Kd.S_far (p := ⟨gb197, 5, none⟩) (Kd.S_far (p := ⟨gb197, 4, none⟩) (Kd.S_far (p := ⟨gb197, 3, none⟩) (Kd.S_far (p := ⟨gb197, 2, none⟩) (Kd.S_far (p := ⟨gb197, 1, none⟩) (Kd.S_far (p := ⟨gb197, 0, none⟩) (Kd.S_types HO191.out BK197.out (by decide)) (fun _ hk => hk.2) (.string t182)) (fun _ hk => hk.2) (.slice Ao13 t183.length co13)) (fun _ hk => hk.2) (.slice Ao14 t186.length co14)) (fun _ hk => hk.2) (.slice Ao15 t189.length co15)) (fun _ hk => hk.2) (.bool t192)) (fun _ hk => hk.2) (.slice Ao16 t193.length co16)) (fun _ h_ => h_.1))))) (Kd.R_lt (by (with_reducible repeat (first | apply Kd.R_alloc | apply Kd.R_drewN | apply Kd.R_drew)); exact (Kd.R_mono (Kd.R_far (p := ⟨gb197, 5, none⟩) (Kd.R_far (p := ⟨gb197, 4, none⟩) (Kd.R_far (p := ⟨gb197, 3, none⟩) (Kd.R_far (p := ⟨gb197, 2, none⟩) (Kd.R_far (p := ⟨gb197, 1, none⟩) (Kd.R_far (p := ⟨gb197, 0, none⟩) (Kd.R_types HO195.out BK197.out (by decide)) (fun _ hk => hk.2) (.string t182)) (fun _ hk => hk.2) (.slice Ao13 t183.length co13)) (fun _ hk => hk.2) (.slice Ao14 t186.length co14)) (fun _ hk => hk.2) (.slice Ao15 t189.length co15)) (fun _ hk => hk.2) (.bool t192)) (fun _ hk => hk.2) (.slice Ao16 t193.length co16)) (fun _ h_ => h_.1))))) (below_size (wk HB.out))); have HO207 := aS_ (Kd.S_lower (Kd.S_new' (Kd.S_new' (Kd.S_new' ho2 (Kd.S_lt (by (with_reducible repeat (first | apply Kd.S_alloc | apply Kd.S_drewN | apply Kd.S_drew)); exact (Kd.S_mono (Kd.S_far (p := ⟨gb197, 5, none⟩) (Kd.S_far (p := ⟨gb197, 4, none⟩) (Kd.S_far (p := ⟨gb197, 3, none⟩) (Kd.S_far (p := ⟨gb197, 2, none⟩) (Kd.S_far (p := ⟨gb197, 1, none⟩) (Kd.S_far (p := ⟨gb197, 0, none⟩) (Kd.S_types HO188.out BK197.out (by decide)) (fun _ hk => hk.2) (.string t182)) (fun _ hk => hk.2) (.slice Ao13 t183.length co13)) (fun _ hk => hk.2) (.slice Ao14 t186.length co14)) (fun _ hk => hk.2) (.slice Ao15 t189.length co15)) (fun _ hk => hk.2) (.bool t192)) (fun _ hk => hk.2) (.slice Ao16 t193.length co16)) (fun _ h_ => h_.1))))) (Kd.S_lt (by (with_reducible repeat (first | apply Kd.S_alloc | apply Kd.S_drewN | apply Kd.S_drew)); exact (Kd.S_mono (Kd.S_far (p := ⟨gb197, 5, none⟩) (Kd.S_far (p := ⟨gb197, 4, none⟩) (Kd.S_far (p := ⟨gb197, 3, none⟩) (Kd.S_far (p := ⟨gb197, 2, none⟩) (Kd.S_far (p := ⟨gb197, 1, none⟩) (Kd.S_far (p := ⟨gb197, 0, none⟩) (Kd.S_types HO191.out BK197.out (by decide)) (fun _ hk => hk.2) (.string t182)) (fun _ hk => hk.2) (.slice Ao13 t183.length co13)) (fun _ hk => hk.2) (.slice Ao14 t186.length co14)) (fun _ hk => hk.2) (.slice Ao15 t189.length co15)) (fun _ hk => hk.2) (.bool t192)) (fun _ hk => hk.2) (.slice Ao16 t193.length co16)) (fun _ h_ => h_.1))))) (Kd.R_lt (by (with_reducible repeat (first | apply Kd.R_alloc | apply Kd.R_drewN | apply Kd.R_drew)); exact (Kd.R_mono (Kd.R_far (p := ⟨gb197, 5, none⟩) (Kd.R_far (p := ⟨gb197, 4, none⟩) (Kd.R_far (p := ⟨gb197, 3, none⟩) (Kd.R_far (p := ⟨gb197, 2, none⟩) (Kd.R_far (p := ⟨gb197, 1, none⟩) (Kd.R_far (p := ⟨gb197, 0, none⟩) (Kd.R_types HO195.out BK197.out (by decide)) (fun _ hk => hk.2) (.string t182)) (fun _ hk => hk.2) (.slice Ao13 t183.length co13)) (fun _ hk => hk.2) (.slice Ao14 t186.length co14)) (fun _ hk => hk.2) (.slice Ao15 t189.length co15)) (fun _ hk => hk.2) (.bool t192)) (fun _ hk => hk.2) (.slice Ao16 t193.length co16)) (fun _ h_ => h_.1))))) (below_size (wk HB.out))); replace HO188 := aS_ (Kd.S_mono (Kd.S_told (Kd.S_told (Kd.S_told (Kd.S_old (by (with_reducible repeat (first | apply Kd.S_alloc | apply Kd.S_drewN | apply Kd.S_drew)); exact (Kd.S_mono (Kd.S_far (p := ⟨gb197, 5, none⟩) (Kd.S_far (p := ⟨gb197, 4, none⟩) (Kd.S_far (p := ⟨gb197, 3, none⟩) (Kd.S_far (p := ⟨gb197, 2, none⟩) (Kd.S_far (p := ⟨gb197, 1, none⟩) (Kd.S_far (p := ⟨gb197, 0, none⟩) (Kd.S_types HO188.out BK197.out (by decide)) (fun _ hk => hk.2) (.string t182)) (fun _ hk => hk.2) (.slice Ao13 t183.length co13)) (fun _ hk => hk.2) (.slice Ao14 t186.length co14)) (fun _ hk => hk.2) (.slice Ao15 t189.length co15)) (fun _ hk => hk.2) (.bool t192)) (fun _ hk => hk.2) (.slice Ao16 t193.length co16)) (fun _ h_ => h_.1))) hb) (Kd.S_base ho1)) (Kd.S_base ho2)) (Kd.R_base ho3)) (fun _ h_ => h_.1)); replace HO191 := aS_ (Kd.S_mono (Kd.S_told (Kd.S_told (Kd.S_told (Kd.S_old (by (with_reducible repeat (first | apply Kd.S_alloc | apply Kd.S_drewN | apply Kd.S_drew)); exact (Kd.S_mono (Kd.S_far (p := ⟨gb197, 5, none⟩) (Kd.S_far (p := ⟨gb197, 4, none⟩) (Kd.S_far (p := ⟨gb197, 3, none⟩) (Kd.S_far (p := ⟨gb197, 2, none⟩) (Kd.S_far (p := ⟨gb197, 1, none⟩) (Kd.S_far (p := ⟨gb197, 0, none⟩) (Kd.S_types HO191.out BK197.out (by decide)) (fun _ hk => hk.2) (.string t182)) (fun _ hk => hk.2) (.slice Ao13 t183.length co13)) (fun _ hk => hk.2) (.slice Ao14 t186.length co14)) (fun _ hk => hk.2) (.slice Ao15 t189.length co15)) (fun _ hk => hk.2) (.bool t192)) (fun _ hk => hk.2) (.slice Ao16 t193.length co16)) (fun _ h_ => h_.1))) hb) (Kd.S_base ho1)) (Kd.S_base ho2)) (Kd.R_base ho3)) (fun _ h_ => h_.1)); have HO211 := aS_ (Kd.R_lower (Kd.R_new' ho3 (Kd.R_lt (by (with_reducible repeat (first | apply Kd.R_alloc | apply Kd.R_drewN | apply Kd.R_drew)); exact (Kd.R_mono (Kd.R_far (p := ⟨gb197, 5, none⟩) (Kd.R_far (p := ⟨gb197, 4, none⟩) (Kd.R_far (p := ⟨gb197, 3, none⟩) (Kd.R_far (p := ⟨gb197, 2, none⟩) (Kd.R_far (p := ⟨gb197, 1, none⟩) (Kd.R_far (p := ⟨gb197, 0, none⟩) (Kd.R_types HO195.out BK197.out (by decide)) (fun _ hk => hk.2) (.string t182)) (fun _ hk => hk.2) (.slice Ao13 t183.length co13)) (fun _ hk => hk.2) (.slice Ao14 t186.length co14)) (fun _ hk => hk.2) (.slice Ao15 t189.length co15)) (fun _ hk => hk.2) (.bool t192)) (fun _ hk => hk.2) (.slice Ao16 t193.length co16)) (fun _ h_ => h_.1))))) (below_size (wk HB.out))); replace HO195 := aS_ (Kd.R_elder' (by (with_reducible repeat (first | apply Kd.R_alloc | apply Kd.R_drewN | apply Kd.R_drew)); exact (Kd.R_mono (Kd.R_far (p := ⟨gb197, 5, none⟩) (Kd.R_far (p := ⟨gb197, 4, none⟩) (Kd.R_far (p := ⟨gb197, 3, none⟩) (Kd.R_far (p := ⟨gb197, 2, none⟩) (Kd.R_far (p := ⟨gb197, 1, none⟩) (Kd.R_far (p := ⟨gb197, 0, none⟩) (Kd.R_types HO195.out BK197.out (by decide)) (fun _ hk => hk.2) (.string t182)) (fun _ hk => hk.2) (.slice Ao13 t183.length co13)) (fun _ hk => hk.2) (.slice Ao14 t186.length co14)) (fun _ hk => hk.2) (.slice Ao15 t189.length co15)) (fun _ hk => hk.2) (.bool t192)) (fun _ hk => hk.2) (.slice Ao16 t193.length co16)) (fun _ h_ => h_.1))) (Kd.R_base ho3) hb); replace BK197 := aS_ (blk_below (g := gb197) (o := .cells #[.string t182, .slice Ao13 t183.length co13, .slice Ao14 t186.length co14, .slice Ao15 t189.length co15, .bool t192, .slice Ao16 t193.length co16] 26 (0, 0)) (bp BK197.out) hb); replace HB := bw_ HB hb; try clear hb; (try clear ho0); (try clear ho1); (try clear ho2); (try clear ho3)) | (refine bx_ 5 #[.string (⟨#[]⟩ : ByteArray), .slice none 0 0, .slice none 0 0, .slice none 0 0, .bool false, .slice none 0 0] 26 ?_; intro gb213 hg w18 hbox hb; replace HO185 := rb_ HO185 hb; replace HO188 := sb_ HO188 hb; replace HO191 := sb_ HO191 hb; replace HO195 := rb_ HO195 hb; replace HO201 := rb_ HO201 hb; replace HO204 := sb_ HO204 hb; replace HO207 := sb_ HO207 hb; replace HO211 := rb_ HO211 hb; have BK213 := aS_ (hbox); have GW213 := ge_ hg (wk HB.out); have GE213 := ge_ hg (wk HB.out); replace HB := bw_ HB hb; have NB197_213 := nq_ hg (bk BK197.out); replace BK197 := bb_ BK197 hb; have NB213_197 := nr_ NB197_213; clear hb hbox hg; have hnb19 := NB213_197.out; have hnc19 := NB197_213.out; obtain ⟨hcz20_0, hcz20_1, hcz20_2, hcz20_3, hcz20_4, hcz20_5, hfz20_0, hfz20_1, hfz20_2, hfz20_3, hfz20_4, hfz20_5⟩ := c6_ BK213.out; obtain ⟨Ao21, co21, eo21⟩ := Kd.R_slice HO201.out; subst eo21; obtain ⟨Ao22, co22, eo22⟩ := Kd.S_slice HO204.out; subst eo22; obtain ⟨Ao23, co23, eo23⟩ := Kd.S_slice HO207.out; subst eo23; obtain ⟨Ao24, co24, eo24⟩ := Kd.R_slice HO211.out; subst eo24) | ((with_reducible refine gate_dst (N := 22) rfl ?_); refine Kd.R_make (Kd.int .u8) _ 5 rfl (N := 22) rfl 39 _ _ rfl 13 rfl rfl Try.underlying39 (.int .u8 0) 1 info5 rfl (by decide) (by omega) 0 (ok := fun _ => True) (okp := fun _ => True) rfl (fun _ hk => hk) trivial (by omega) (by omega) (Below.refl _ _) (Nat.le_refl _) ?_; intro v215 w25 ho26 hb hg_ hnew_; clear hg_ hnew_; (first | rw [← Ny214.out] at ho26 | (simp only [Int.reduceToNat] at ho26; rw [← Ny214.out] at ho26)); replace HO185 := aS_ (Kd.R_below (by (with_reducible repeat (first | apply Kd.R_alloc | apply Kd.R_drewN | apply Kd.R_drew)); exact (Kd.R_mono (Kd.R_far (p := ⟨gb213, 5, none⟩) (Kd.R_far (p := ⟨gb213, 4, none⟩) (Kd.R_far (p := ⟨gb213, 3, none⟩) (Kd.R_far (p := ⟨gb213, 2, none⟩) (Kd.R_far (p := ⟨gb213, 1, none⟩) (Kd.R_far (p := ⟨gb213, 0, none⟩) (Kd.R_types HO185.out BK213.out (by decide)) (fun _ hk => hk.2) (.string t198)) (fun _ hk => hk.2) (.slice Ao21 t199.length co21)) (fun _ hk => hk.2) (.slice Ao22 t202.length co22)) (fun _ hk => hk.2) (.slice Ao23 t205.length co23)) (fun _ hk => hk.2) (.bool t208)) (fun _ hk => hk.2) (.slice Ao24 t209.length co24)) (fun _ h_ => h_.1))) hb); replace HO188 := aS_ (Kd.S_below (by (with_reducible repeat (first | apply Kd.S_alloc | apply Kd.S_drewN | apply Kd.S_drew)); exact (Kd.S_mono (Kd.S_far (p := ⟨gb213, 5, none⟩) (Kd.S_far (p := ⟨gb213, 4, none⟩) (Kd.S_far (p := ⟨gb213, 3, none⟩) (Kd.S_far (p := ⟨gb213, 2, none⟩) (Kd.S_far (p := ⟨gb213, 1, none⟩) (Kd.S_far (p := ⟨gb213, 0, none⟩) (Kd.S_types HO188.out BK213.out (by decide)) (fun _ hk => hk.2) (.string t198)) (fun _ hk => hk.2) (.slice Ao21 t199.length co21)) (fun _ hk => hk.2) (.slice Ao22 t202.length co22)) (fun _ hk => hk.2) (.slice Ao23 t205.length co23)) (fun _ hk => hk.2) (.bool t208)) (fun _ hk => hk.2) (.slice Ao24 t209.length co24)) (fun _ h_ => h_.1))) hb); replace HO191 := aS_ (Kd.S_below (by (with_reducible repeat (first | apply Kd.S_alloc | apply Kd.S_drewN | apply Kd.S_drew)); exact (Kd.S_mono (Kd.S_far (p := ⟨gb213, 5, none⟩) (Kd.S_far (p := ⟨gb213, 4, none⟩) (Kd.S_far (p := ⟨gb213, 3, none⟩) (Kd.S_far (p := ⟨gb213, 2, none⟩) (Kd.S_far (p := ⟨gb213, 1, none⟩) (Kd.S_far (p := ⟨gb213, 0, none⟩) (Kd.S_types HO191.out BK213.out (by decide)) (fun _ hk => hk.2) (.string t198)) (fun _ hk => hk.2) (.slice Ao21 t199.length co21)) (fun _ hk => hk.2) (.slice Ao22 t202.length co22)) (fun _ hk => hk.2) (.slice Ao23 t205.length co23)) (fun _ hk => hk.2) (.bool t208)) (fun _ hk => hk.2) (.slice Ao24 t209.length co24)) (fun _ h_ => h_.1))) hb); replace HO195 := aS_ (Kd.R_below (by (with_reducible repeat (first | apply Kd.R_alloc | apply Kd.R_drewN | apply Kd.R_drew)); exact (Kd.R_mono (Kd.R_far (p := ⟨gb213, 5, none⟩) (Kd.R_far (p := ⟨gb213, 4, none⟩) (Kd.R_far (p := ⟨gb213, 3, none⟩) (Kd.R_far (p := ⟨gb213, 2, none⟩) (Kd.R_far (p := ⟨gb213, 1, none⟩) (Kd.R_far (p := ⟨gb213, 0, none⟩) (Kd.R_types HO195.out BK213.out (by decide)) (fun _ hk => hk.2) (.string t198)) (fun _ hk => hk.2) (.slice Ao21 t199.length co21)) (fun _ hk => hk.2) (.slice Ao22 t202.length co22)) (fun _ hk => hk.2) (.slice Ao23 t205.length co23)) (fun _ hk => hk.2) (.bool t208)) (fun _ hk => hk.2) (.slice Ao24 t209.length co24)) (fun _ h_ => h_.1))) hb); replace HO201 := aS_ (Kd.R_below (by (with_reducible repeat (first | apply Kd.R_alloc | apply Kd.R_drewN | apply Kd.R_drew)); exact (Kd.R_mono (Kd.R_far (p := ⟨gb213, 5, none⟩) (Kd.R_far (p := ⟨gb213, 4, none⟩) (Kd.R_far (p := ⟨gb213, 3, none⟩) (Kd.R_far (p := ⟨gb213, 2, none⟩) (Kd.R_far (p := ⟨gb213, 1, none⟩) (Kd.R_far (p := ⟨gb213, 0, none⟩) (Kd.R_types HO201.out BK213.out (by decide)) (fun _ hk => hk.2) (.string t198)) (fun _ hk => hk.2) (.slice Ao21 t199.length co21)) (fun _ hk => hk.2) (.slice Ao22 t202.length co22)) (fun _ hk => hk.2) (.slice Ao23 t205.length co23)) (fun _ hk => hk.2) (.bool t208)) (fun _ hk => hk.2) (.slice Ao24 t209.length co24)) (fun _ h_ => h_.1))) hb); replace HO204 := aS_ (Kd.S_below (by (with_reducible repeat (first | apply Kd.S_alloc | apply Kd.S_drewN | apply Kd.S_drew)); exact (Kd.S_mono (Kd.S_far (p := ⟨gb213, 5, none⟩) (Kd.S_far (p := ⟨gb213, 4, none⟩) (Kd.S_far (p := ⟨gb213, 3, none⟩) (Kd.S_far (p := ⟨gb213, 2, none⟩) (Kd.S_far (p := ⟨gb213, 1, none⟩) (Kd.S_far (p := ⟨gb213, 0, none⟩) (Kd.S_types HO204.out BK213.out (by decide)) (fun _ hk => hk.2) (.string t198)) (fun _ hk => hk.2) (.slice Ao21 t199.length co21)) (fun _ hk => hk.2) (.slice Ao22 t202.length co22)) (fun _ hk => hk.2) (.slice Ao23 t205.length co23)) (fun _ hk => hk.2) (.bool t208)) (fun _ hk => hk.2) (.slice Ao24 t209.length co24)) (fun _ h_ => h_.1))) hb); replace HO207 := aS_ (Kd.S_below (by (with_reducible repeat (first | apply Kd.S_alloc | apply Kd.S_drewN | apply Kd.S_drew)); exact (Kd.S_mono (Kd.S_far (p := ⟨gb213, 5, none⟩) (Kd.S_far (p := ⟨gb213, 4, none⟩) (Kd.S_far (p := ⟨gb213, 3, none⟩) (Kd.S_far (p := ⟨gb213, 2, none⟩) (Kd.S_far (p := ⟨gb213, 1, none⟩) (Kd.S_far (p := ⟨gb213, 0, none⟩) (Kd.S_types HO207.out BK213.out (by decide)) (fun _ hk => hk.2) (.string t198)) (fun _ hk => hk.2) (.slice Ao21 t199.length co21)) (fun _ hk => hk.2) (.slice Ao22 t202.length co22)) (fun _ hk => hk.2) (.slice Ao23 t205.length co23)) (fun _ hk => hk.2) (.bool t208)) (fun _ hk => hk.2) (.slice Ao24 t209.length co24)) (fun _ h_ => h_.1))) hb); replace HO211 := aS_ (Kd.R_below (by (with_reducible repeat (first | apply Kd.R_alloc | apply Kd.R_drewN | apply Kd.R_drew)); exact (Kd.R_mono (Kd.R_far (p := ⟨gb213, 5, none⟩) (Kd.R_far (p := ⟨gb213, 4, none⟩) (Kd.R_far (p := ⟨gb213, 3, none⟩) (Kd.R_far (p := ⟨gb213, 2, none⟩) (Kd.R_far (p := ⟨gb213, 1, none⟩) (Kd.R_far (p := ⟨gb213, 0, none⟩) (Kd.R_types HO211.out BK213.out (by decide)) (fun _ hk => hk.2) (.string t198)) (fun _ hk => hk.2) (.slice Ao21 t199.length co21)) (fun _ hk => hk.2) (.slice Ao22 t202.length co22)) (fun _ hk => hk.2) (.slice Ao23 t205.length co23)) (fun _ hk => hk.2) (.bool t208)) (fun _ hk => hk.2) (.slice Ao24 t209.length co24)) (fun _ h_ => h_.1))) hb); have HO216 := aS_ (Kd.R_lower ho26 (below_size (wk HB.out))); replace BK197 := aS_ (blk_below (bq BK197.out) hb); replace BK213 := aS_ (blk_below (g := gb213) (o := .cells #[.string t198, .slice Ao21 t199.length co21, .slice Ao22 t202.length co22, .slice Ao23 t205.length co23, .bool t208, .slice Ao24 t209.length co24] 26 (0, 0)) (bp BK213.out) hb); replace HB := bw_ HB hb; clear hb ho26; have hcv27 := own_string (P := Try.prog) Try.underlying39 Try.underlying5 Try.underlying9 (Kd.own_of_R HO216.out); obtain ⟨hcz28_0, hcz28_1, hcz28_2, hcz28_3, hcz28_4, hcz28_5, hfz28_0, hfz28_1, hfz28_2, hfz28_3, hfz28_4, hfz28_5⟩ := c6_ BK197.out))
      go_ret
      exact ⟨t1, wk HB.out⟩
     ·rw [if_neg c8] at H
      exact absurd H (by simp)
    ·rw [if_neg c7] at H
     exact absurd H (by simp)
   ·rw [if_neg c6] at H
    exact absurd H (by simp)
  ·rw [if_neg c5] at H
   exact absurd H (by simp)
 ·rw [if_neg c4] at H
  exact absurd H (by simp)
/-! ### sr01number: function 103 -/
mutual
def sr01number.j0 : Nat → ByteArray → Int → Option (Int)
 | 0, _, _ => none
 | k + 1, x0, x3 => if x3 < 0 then (some (-1)) else (sr01number.l0 k x0 x3 1)
def sr01number.l0 : Nat → ByteArray → Int → Int → Option (Int)
 | 0, _, _, _ => none
 | k + 1, x0, x3, x4 => if x4 < (x0.size : Int) then (if 0 ≤ x4 then (sr01number.l0 k x0 (wrap64 ((wrap64 (64 * x3)) + (Int.tmod (wrap64 (bt x0 x4)) 64))) (wrap64 (x4 + 1))) else (none)) else (some x3)
end
def sr01number.f (k : Nat) (a0 : ByteArray) : Option (Int) := if 0 < (a0.size : Int) then (if (a0.size : Int) = 1 then (some (wrap64 (bt a0 0))) else (if (a0.size : Int) = 2 then (sr01number.j0 k a0 (wrap64 ((wrap64 (bt a0 0)) - 192))) else (if (a0.size : Int) = 3 then (sr01number.j0 k a0 (wrap64 ((wrap64 (bt a0 0)) - 224))) else (sr01number.j0 k a0 (wrap64 ((wrap64 (bt a0 0)) - 240)))))) else (none)
set_option maxHeartbeats 8000000 in
set_option maxRecDepth 100000 in
theorem sr01number.calls (k : Nat) (a0 : ByteArray) (r : Int) (w : World) (h : sr01number.f k a0 = some r) :
  Calls Try.prog 103 #[.string a0] w fun e w' => e = .returned (.int .i64 r) ∧ Drawn0 w w' := by
 have H : (if 0 < (a0.size : Int) then (if (a0.size : Int) = 1 then (some (wrap64 (bt a0 0))) else (if (a0.size : Int) = 2 then (sr01number.j0 k a0 (wrap64 ((wrap64 (bt a0 0)) - 192))) else (if (a0.size : Int) = 3 then (sr01number.j0 k a0 (wrap64 ((wrap64 (bt a0 0)) - 224))) else (sr01number.j0 k a0 (wrap64 ((wrap64 (bt a0 0)) - 240)))))) else (none)) = some r := h
 clear h
 by_cases c2 : 0 < (a0.size : Int)
 ·rw [if_pos c2] at H
  have c2b0 := decide_eq_true c2
  have c2b1 : decide (0 < a0.size) = true := decide_eq_true (by omega)
  clear c2
  have HC4 := aS_ H
  clear H
  have p3 : 0 ≤ (0 : Int) := (by omega)
  have q3 : 0 < a0.size := (by have : (0 : Int) < (a0.size : Int) := of_decide_eq_true (by first | (with_reducible assumption) | assumption); omega)
  have hx3 : ∀ h : 0 < a0.size, ((a0[0]'h).toNat : Int) = bt a0 0 := bt_at a0 0
  clear p3
  have qi3 : (0 < (a0.size : Int)) = True := eq_true (of_decide_eq_true (by first | (with_reducible assumption) | assumption))
  replace q3 := eq_true q3
  go_enter Try.func103, Try.ntmps103
  go_upto_block 0 with (fail)
  go_cut [3] (fun v3 wc => ∃ (kq : Nat) (x3_3 : Int), v3 = .int .i64 x3_3 ∧ Aside0 (sr01number.j0 kq a0 x3_3 = some r) ∧ Aside0 (kq ≤ k) ∧ Drawn0 w wc)
  case first =>
   have H := HC4.out
   clear HC4
   by_cases c5 : (a0.size : Int) = 1
   ·rw [if_pos c5] at H
    have c5b0 := beq_iff_eq.mpr c5
    have c5b1 := bne_eq_false_iff_eq.mpr c5
    clear c5
    (first | rw [c5b0] | (simp only [i64_w, i32_w]; rw [c5b0]) | skip)
    obtain rfl := Option.some.inj H
    go_wp2
    go_ret
    exact ⟨by first | rfl | (simp; done) | (simp [*]; done), by repeat (first | exact Drawn0.refl _ | apply Drawn0.step)⟩
   ·rw [if_neg c5] at H
    have c5b0 := beq_eq_false_iff_ne.mpr c5
    have c5b1 := bne_iff_ne.mpr c5
    (first | rw [c5b0] | (simp only [i64_w, i32_w]; rw [c5b0]) | skip)
    by_cases c6 : (a0.size : Int) = 2
    ·rw [if_pos c6] at H
     have c6b0 := beq_iff_eq.mpr c6
     have c6b1 := bne_eq_false_iff_eq.mpr c6
     clear c6
     have H' := aS_ H
     clear H
     go_wp2
     go_meet
     case rel => exact ⟨_, (wrap64 ((wrap64 (bt a0 0)) - 192)), t0, H', ⟨t3⟩, by repeat (first | exact Drawn0.refl _ | apply Drawn0.step)⟩
    ·rw [if_neg c6] at H
     have c6b0 := beq_eq_false_iff_ne.mpr c6
     have c6b1 := bne_iff_ne.mpr c6
     by_cases c7 : (a0.size : Int) = 3
     ·rw [if_pos c7] at H
      have c7b0 := beq_iff_eq.mpr c7
      have c7b1 := bne_eq_false_iff_eq.mpr c7
      clear c7
      have H' := aS_ H
      clear H
      go_wp2
      go_meet
      case rel => exact ⟨_, (wrap64 ((wrap64 (bt a0 0)) - 224)), t0, H', ⟨t3⟩, by repeat (first | exact Drawn0.refl _ | apply Drawn0.step)⟩
     ·rw [if_neg c7] at H
      have c7b0 := beq_eq_false_iff_ne.mpr c7
      have c7b1 := bne_iff_ne.mpr c7
      have H' := aS_ H
      clear H
      go_wp2
      go_meet
      case rel => exact ⟨_, (wrap64 ((wrap64 (bt a0 0)) - 240)), t0, H', ⟨t3⟩, by repeat (first | exact Drawn0.refl _ | apply Drawn0.step)⟩
  case rest =>
   clear HC4
   try clear c1
   try clear c2
   try clear c2b0
   try clear c2b1
   try clear p2
   try clear p3
   try clear q3
   try clear hx3
   try clear qi3
   try clear c5
   try clear c5b0
   try clear c5b1
   try clear c6
   try clear c6b0
   try clear c6b1
   try clear p6
   try clear c7
   try clear c7b0
   try clear c7b1
   try clear p3
   try clear q3
   obtain ⟨kq, x3_3, rfl, HA, HJ3, ⟨mc3, rfl⟩⟩ := hcut
   cases kq with
   | zero => exact absurd HA.out (by simp [sr01number.j0])
   | succ kj3 =>
    have H := HA.out
    clear HA
    simp only [sr01number.j0] at H
    by_cases c8 : x3_3 < 0
    ·rw [if_pos c8] at H
     have c8b0 := decide_eq_true c8
     clear c8
     obtain rfl := Option.some.inj H
     go_wp2
     go_ret
     exact ⟨by first | rfl | (simp; done) | (simp [*]; done), by repeat (first | exact Drawn0.refl _ | apply Drawn0.step)⟩
    ·rw [if_neg c8] at H
     have c8b0 := decide_eq_false c8
     clear c8
     have H' := aS_ H
     clear H
     go_wp2
     go_loopg [3, 4] kj3 (fun kq v3 v4 w' => ∃ (x3_2 : Int) (x4_2 : Int), v3 = .int .i64 x3_2 ∧ v4 = .int .i64 x4_2 ∧ Aside0 (sr01number.l0 kq a0 x3_2 x4_2 = some r) ∧ Aside0 (kq ≤ kj3) ∧ Drawn0 w w')
     case atStart => exact ⟨(x3_3), (1), t0, t0, H', ⟨Nat.le_refl _⟩, by repeat (first | exact Drawn0.refl _ | apply Drawn0.step)⟩
     case round =>
      clear H'
      try clear c1
      try clear c2
      try clear c2b0
      try clear c2b1
      try clear p2
      try clear c3
      try clear p3
      try clear q3
      try clear hx3
      try clear qi3
      try clear c5
      try clear c5b0
      try clear c5b1
      try clear c6
      try clear c6b0
      try clear c6b1
      try clear p6
      try clear c7
      try clear c7b0
      try clear c7b1
      try clear c8
      try clear c8b0
      try clear p2
      try clear p3
      try clear p6
      try clear q3
      obtain ⟨x3_2, x4_2, rfl, rfl, HA, HK2, ⟨m2, rfl⟩⟩ := hrel
      cases gk with
      | zero => exact absurd HA.out (by simp [sr01number.l0])
      | succ k2 =>
       have H := HA.out
       clear HA
       simp only [sr01number.l0] at H
       by_cases c9 : x4_2 < (a0.size : Int)
       ·rw [if_pos c9] at H
        have c9b0 := decide_eq_true c9
        clear c9
        by_cases c10 : 0 ≤ x4_2
        ·rw [if_pos c10] at H
         have c10b0 := decide_eq_true c10
         clear c10
         have H' := aS_ H
         clear H
         have p11 : 0 ≤ (x4_2 : Int) := of_decide_eq_true (by first | (with_reducible assumption) | assumption)
         have q11 : x4_2 < (a0.size : Int) := of_decide_eq_true (by first | (with_reducible assumption) | assumption)
         have hx11 := bt_at a0 x4_2
         replace p11 := eq_true p11
         replace q11 := eq_true q11
         go_wp2
         go_roundg k2
         case measure => have := HJ3.out; have := HK2.out; omega
         case rel => exact ⟨(wrap64 ((wrap64 (64 * x3_2)) + (Int.tmod (wrap64 (bt a0 x4_2)) 64))), (wrap64 (x4_2 + 1)), t0, t0, H', ⟨by have := HJ3.out; have := HK2.out; omega⟩, by repeat (first | exact Drawn0.refl _ | apply Drawn0.step)⟩
        ·rw [if_neg c10] at H
         exact absurd H (by simp)
       ·rw [if_neg c9] at H
        have c9b0 := decide_eq_false c9
        clear c9
        obtain rfl := Option.some.inj H
        go_wp2
        go_ret
        exact ⟨by first | rfl | (simp; done) | (simp [*]; done), by repeat (first | exact Drawn0.refl _ | apply Drawn0.step)⟩
 ·rw [if_neg c2] at H
  exact absurd H (by simp)
/-! ### sr01ok: function 105 -/
def sr01ok.f (a0 : Int) : Option (Bool) := if a0 ≥ 0 then (if a0 ≤ 1114111 then (if a0 ≥ 55296 then (some (!(decide (a0 ≤ 57343)))) else (some (!false))) else (some false)) else (some false)
set_option maxHeartbeats 8000000 in
set_option maxRecDepth 100000 in
theorem sr01ok.calls (a0 : Int) (r : Bool) (w : World) (h : sr01ok.f a0 = some r) :
  Calls Try.prog 105 #[.int .i64 a0] w fun e w' => e = .returned (.bool r) ∧ Drawn0 w w' := by
 have H : (if a0 ≥ 0 then (if a0 ≤ 1114111 then (if a0 ≥ 55296 then (some (!(decide (a0 ≤ 57343)))) else (some (!false))) else (some false)) else (some false)) = some r := h
 clear h
 by_cases c2 : a0 ≥ 0
 ·rw [if_pos c2] at H
  have c2b0 := decide_eq_true c2
  clear c2
  by_cases c3 : a0 ≤ 1114111
  ·rw [if_pos c3] at H
   have c3b0 := decide_eq_true c3
   clear c3
   by_cases c4 : a0 ≥ 55296
   ·rw [if_pos c4] at H
    have c4b0 := decide_eq_true c4
    clear c4
    obtain rfl := Option.some.inj H
    go_enter Try.func105, Try.ntmps105
    go_wp2
    go_ret
    exact ⟨by first | rfl | (simp; done) | (simp [*]; done), by repeat (first | exact Drawn0.refl _ | apply Drawn0.step)⟩
   ·rw [if_neg c4] at H
    have c4b0 := decide_eq_false c4
    clear c4
    obtain rfl := Option.some.inj H
    go_enter Try.func105, Try.ntmps105
    go_wp2
    go_ret
    exact ⟨by first | rfl | (simp; done) | (simp [*]; done), by repeat (first | exact Drawn0.refl _ | apply Drawn0.step)⟩
  ·rw [if_neg c3] at H
   have c3b0 := decide_eq_false c3
   clear c3
   obtain rfl := Option.some.inj H
   go_enter Try.func105, Try.ntmps105
   go_wp2
   go_ret
   exact ⟨by first | rfl | (simp; done) | (simp [*]; done), by repeat (first | exact Drawn0.refl _ | apply Drawn0.step)⟩
 ·rw [if_neg c2] at H
  have c2b0 := decide_eq_false c2
  clear c2
  obtain rfl := Option.some.inj H
  go_enter Try.func105, Try.ntmps105
  go_wp2
  go_ret
  exact ⟨by first | rfl | (simp; done) | (simp [*]; done), by repeat (first | exact Drawn0.refl _ | apply Drawn0.step)⟩
/-! ### sr01octets: function 106 -/
def sr01octets.f (a0 : Int) : Option (Int) := if a0 < 128 then (some 1) else (if a0 < 2048 then (some 2) else (if a0 < 65536 then (some 3) else (some 4)))
set_option maxHeartbeats 8000000 in
set_option maxRecDepth 100000 in
theorem sr01octets.calls (a0 : Int) (r : Int) (w : World) (h : sr01octets.f a0 = some r) :
  Calls Try.prog 106 #[.int .i64 a0] w fun e w' => e = .returned (.int .i64 r) ∧ Drawn0 w w' := by
 have H : (if a0 < 128 then (some 1) else (if a0 < 2048 then (some 2) else (if a0 < 65536 then (some 3) else (some 4)))) = some r := h
 clear h
 by_cases c2 : a0 < 128
 ·rw [if_pos c2] at H
  have c2b0 := decide_eq_true c2
  clear c2
  obtain rfl := Option.some.inj H
  go_enter Try.func106, Try.ntmps106
  go_wp2
  go_ret
  exact ⟨by first | rfl | (simp; done) | (simp [*]; done), by repeat (first | exact Drawn0.refl _ | apply Drawn0.step)⟩
 ·rw [if_neg c2] at H
  have c2b0 := decide_eq_false c2
  clear c2
  by_cases c3 : a0 < 2048
  ·rw [if_pos c3] at H
   have c3b0 := decide_eq_true c3
   clear c3
   obtain rfl := Option.some.inj H
   go_enter Try.func106, Try.ntmps106
   go_wp2
   go_ret
   exact ⟨by first | rfl | (simp; done) | (simp [*]; done), by repeat (first | exact Drawn0.refl _ | apply Drawn0.step)⟩
  ·rw [if_neg c3] at H
   have c3b0 := decide_eq_false c3
   clear c3
   by_cases c4 : a0 < 65536
   ·rw [if_pos c4] at H
    have c4b0 := decide_eq_true c4
    clear c4
    obtain rfl := Option.some.inj H
    go_enter Try.func106, Try.ntmps106
    go_wp2
    go_ret
    exact ⟨by first | rfl | (simp; done) | (simp [*]; done), by repeat (first | exact Drawn0.refl _ | apply Drawn0.step)⟩
   ·rw [if_neg c4] at H
    have c4b0 := decide_eq_false c4
    clear c4
    obtain rfl := Option.some.inj H
    go_enter Try.func106, Try.ntmps106
    go_wp2
    go_ret
    exact ⟨by first | rfl | (simp; done) | (simp [*]; done), by repeat (first | exact Drawn0.refl _ | apply Drawn0.step)⟩
/-! ### sr01Put: function 104 -/
def sr01Put.f (a0 : Int) : Option (ByteArray) := (sr01ok.f (wrap64 (a0))).bind fun t217 => (if t217 = true then ((sr01octets.f (wrap64 (a0))).bind fun t218 => (if t218 = 1 then (some (strOfNums (([(wrap64 (a0)) % 256] : List Int)))) else (if t218 = 2 then (some (strOfNums (([(wrap64 (192 + (wrap64 (Int.tdiv (wrap64 (a0)) 64)))) % 256, (wrap64 (128 + (Int.tmod (wrap64 (a0)) 64))) % 256] : List Int)))) else (if t218 = 3 then (some (strOfNums (([(wrap64 (224 + (wrap64 (Int.tdiv (wrap64 (a0)) 4096)))) % 256, (wrap64 (128 + (Int.tmod (wrap64 (Int.tdiv (wrap64 (a0)) 64)) 64))) % 256, (wrap64 (128 + (Int.tmod (wrap64 (a0)) 64))) % 256] : List Int)))) else (some (strOfNums (([(wrap64 (240 + (wrap64 (Int.tdiv (wrap64 (a0)) 262144)))) % 256, (wrap64 (128 + (Int.tmod (wrap64 (Int.tdiv (wrap64 (a0)) 4096)) 64))) % 256, (wrap64 (128 + (Int.tmod (wrap64 (Int.tdiv (wrap64 (a0)) 64)) 64))) % 256, (wrap64 (128 + (Int.tmod (wrap64 (a0)) 64))) % 256] : List Int)))))))) else (some (⟨#[]⟩ : ByteArray)))
set_option maxHeartbeats 8000000 in
set_option maxRecDepth 100000 in
theorem sr01Put.calls (a0 : Int) (r : ByteArray) (w : World) (h : sr01Put.f a0 = some r) :
  Calls Try.prog 104 #[.int .i32 a0] w fun e w' => e = .returned (.string r) ∧ Below w.heap.size w w' := by
 have HB := aS_ (Below.refl w.heap.size w)
 have H : ((sr01ok.f (wrap64 (a0))).bind fun t217 => (if t217 = true then ((sr01octets.f (wrap64 (a0))).bind fun t218 => (if t218 = 1 then (some (strOfNums (([(wrap64 (a0)) % 256] : List Int)))) else (if t218 = 2 then (some (strOfNums (([(wrap64 (192 + (wrap64 (Int.tdiv (wrap64 (a0)) 64)))) % 256, (wrap64 (128 + (Int.tmod (wrap64 (a0)) 64))) % 256] : List Int)))) else (if t218 = 3 then (some (strOfNums (([(wrap64 (224 + (wrap64 (Int.tdiv (wrap64 (a0)) 4096)))) % 256, (wrap64 (128 + (Int.tmod (wrap64 (Int.tdiv (wrap64 (a0)) 64)) 64))) % 256, (wrap64 (128 + (Int.tmod (wrap64 (a0)) 64))) % 256] : List Int)))) else (some (strOfNums (([(wrap64 (240 + (wrap64 (Int.tdiv (wrap64 (a0)) 262144)))) % 256, (wrap64 (128 + (Int.tmod (wrap64 (Int.tdiv (wrap64 (a0)) 4096)) 64))) % 256, (wrap64 (128 + (Int.tmod (wrap64 (Int.tdiv (wrap64 (a0)) 64)) 64))) % 256, (wrap64 (128 + (Int.tmod (wrap64 (a0)) 64))) % 256] : List Int)))))))) else (some (⟨#[]⟩ : ByteArray)))) = some r := h
 clear h
 replace H := Option.bind_eq_some_iff.mp H
 obtain ⟨t217, A20, H⟩ := H
 try dsimp only at H
 have A2 := aS_ A20
 clear A20
 by_cases c3 : t217 = true
 ·subst c3
  rw [if_pos rfl] at H
  replace H := Option.bind_eq_some_iff.mp H
  obtain ⟨t218, A40, H⟩ := H
  try dsimp only at H
  have A4 := aS_ A40
  clear A40
  by_cases c5 : t218 = 1
  ·rw [if_pos c5] at H
   have c5b0 := beq_iff_eq.mpr c5
   have c5b1 := bne_eq_false_iff_eq.mpr c5
   clear c5
   obtain ⟨y219, hy219⟩ : ∃ y_ : List Int, y_ = (([(wrap64 (a0)) % 256] : List Int)) := ⟨_, rfl⟩
   replace H : (some (strOfNums y219)) = some r := by first | (rw [hy219]; with_reducible exact H) | (have H2_ := (Option.bind_some _ _).symm.trans H; rw [hy219]; with_reducible exact H2_) | (have H2_ := (Option.bind_some _ _).symm.trans H; with_reducible exact H2_) | with_reducible exact H | (rw [hy219]; exact H) | exact H
   have Ny219 := aS_ hy219
   clear hy219
   obtain rfl := Option.some.inj H
   go_enter Try.func104, Try.ntmps104
   go_wp2_with (first | (refine cl_ (some 7) Try.func105 #[.int .i64 (wrap64 (a0))] ?_; (with_reducible refine (sr01ok.calls (wrap64 (a0)) true _ A2.out).mono ?_); rintro e w' ⟨rfl, ⟨nd, rfl⟩⟩; refine ⟨_, rfl, ?_⟩) | (refine cl_ (some 10) Try.func106 #[.int .i64 (wrap64 (a0))] ?_; (with_reducible refine (sr01octets.calls (wrap64 (a0)) t218 _ A4.out).mono ?_); rintro e w' ⟨rfl, ⟨nd, rfl⟩⟩; refine ⟨_, rfl, ?_⟩) | ((with_reducible refine gate_dst (N := 15) rfl ?_); refine Kd.R_lit (Kd.int .u8) _ 5 ?hg (N := 15) ?hd (xs := ([(wrap64 (a0)) % 256] : List Int)) (inner := [.int .u8 ((wrap64 (a0)) % 256)]) (ok := fun _ => True) (okp := fun _ => True) ?hr ?hp (fun _ hk => hk) trivial (Below.refl _ _) (Nat.le_refl _) (by simp) ?_; (case hd => rfl); (case hg => rfl); (case hr => first | (go_simp; done) | (go_simp; rfl)); (case hp => exact (Reps.one (show Kd.M (Kd.int .u8) _ _ _ ((wrap64 (a0)) % 256) [.int .u8 ((wrap64 (a0)) % 256)] from rfl) (Reps.none _ _))); intro v220 w6 ho7 hb hg_ hnew_; clear hg_ hnew_; (first | rw [← Ny219.out] at ho7 | (simp only [Int.reduceToNat] at ho7; rw [← Ny219.out] at ho7)); have HO221 := aS_ (Kd.R_lower ho7 (below_size (wk HB.out))); replace HB := bw_ HB hb; clear hb ho7; have hcv8 := own_string (P := Try.prog) Try.underlying39 Try.underlying5 Try.underlying9 (Kd.own_of_R HO221.out)))
   go_ret
   exact ⟨t1, wk HB.out⟩
  ·rw [if_neg c5] at H
   have c5b0 := beq_eq_false_iff_ne.mpr c5
   have c5b1 := bne_iff_ne.mpr c5
   by_cases c9 : t218 = 2
   ·rw [if_pos c9] at H
    have c9b0 := beq_iff_eq.mpr c9
    have c9b1 := bne_eq_false_iff_eq.mpr c9
    clear c9
    obtain ⟨y222, hy222⟩ : ∃ y_ : List Int, y_ = (([(wrap64 (192 + (wrap64 (Int.tdiv (wrap64 (a0)) 64)))) % 256, (wrap64 (128 + (Int.tmod (wrap64 (a0)) 64))) % 256] : List Int)) := ⟨_, rfl⟩
    replace H : (some (strOfNums y222)) = some r := by first | (rw [hy222]; with_reducible exact H) | (have H2_ := (Option.bind_some _ _).symm.trans H; rw [hy222]; with_reducible exact H2_) | (have H2_ := (Option.bind_some _ _).symm.trans H; with_reducible exact H2_) | with_reducible exact H | (rw [hy222]; exact H) | exact H
    have Ny222 := aS_ hy222
    clear hy222
    obtain rfl := Option.some.inj H
    go_enter Try.func104, Try.ntmps104
    go_wp2_with (first | (refine cl_ (some 7) Try.func105 #[.int .i64 (wrap64 (a0))] ?_; (with_reducible refine (sr01ok.calls (wrap64 (a0)) true _ A2.out).mono ?_); rintro e w' ⟨rfl, ⟨nd, rfl⟩⟩; refine ⟨_, rfl, ?_⟩) | (refine cl_ (some 10) Try.func106 #[.int .i64 (wrap64 (a0))] ?_; (with_reducible refine (sr01octets.calls (wrap64 (a0)) t218 _ A4.out).mono ?_); rintro e w' ⟨rfl, ⟨nd, rfl⟩⟩; refine ⟨_, rfl, ?_⟩) | ((with_reducible refine gate_dst (N := 27) rfl ?_); refine Kd.R_lit (Kd.int .u8) _ 5 ?hg (N := 27) ?hd (xs := ([(wrap64 (192 + (wrap64 (Int.tdiv (wrap64 (a0)) 64)))) % 256, (wrap64 (128 + (Int.tmod (wrap64 (a0)) 64))) % 256] : List Int)) (inner := [.int .u8 ((wrap64 (192 + (wrap64 (Int.tdiv (wrap64 (a0)) 64)))) % 256), .int .u8 ((wrap64 (128 + (Int.tmod (wrap64 (a0)) 64))) % 256)]) (ok := fun _ => True) (okp := fun _ => True) ?hr ?hp (fun _ hk => hk) trivial (Below.refl _ _) (Nat.le_refl _) (by simp) ?_; (case hd => rfl); (case hg => rfl); (case hr => first | (go_simp; done) | (go_simp; rfl)); (case hp => exact (Reps.one (show Kd.M (Kd.int .u8) _ _ _ ((wrap64 (192 + (wrap64 (Int.tdiv (wrap64 (a0)) 64)))) % 256) [.int .u8 ((wrap64 (192 + (wrap64 (Int.tdiv (wrap64 (a0)) 64)))) % 256)] from rfl) (Reps.one (show Kd.M (Kd.int .u8) _ _ _ ((wrap64 (128 + (Int.tmod (wrap64 (a0)) 64))) % 256) [.int .u8 ((wrap64 (128 + (Int.tmod (wrap64 (a0)) 64))) % 256)] from rfl) (Reps.none _ _)))); intro v223 w10 ho11 hb hg_ hnew_; clear hg_ hnew_; (first | rw [← Ny222.out] at ho11 | (simp only [Int.reduceToNat] at ho11; rw [← Ny222.out] at ho11)); have HO224 := aS_ (Kd.R_lower ho11 (below_size (wk HB.out))); replace HB := bw_ HB hb; clear hb ho11; have hcv12 := own_string (P := Try.prog) Try.underlying39 Try.underlying5 Try.underlying9 (Kd.own_of_R HO224.out)))
    go_ret
    exact ⟨t1, wk HB.out⟩
   ·rw [if_neg c9] at H
    have c9b0 := beq_eq_false_iff_ne.mpr c9
    have c9b1 := bne_iff_ne.mpr c9
    by_cases c13 : t218 = 3
    ·rw [if_pos c13] at H
     have c13b0 := beq_iff_eq.mpr c13
     have c13b1 := bne_eq_false_iff_eq.mpr c13
     clear c13
     obtain ⟨y225, hy225⟩ : ∃ y_ : List Int, y_ = (([(wrap64 (224 + (wrap64 (Int.tdiv (wrap64 (a0)) 4096)))) % 256, (wrap64 (128 + (Int.tmod (wrap64 (Int.tdiv (wrap64 (a0)) 64)) 64))) % 256, (wrap64 (128 + (Int.tmod (wrap64 (a0)) 64))) % 256] : List Int)) := ⟨_, rfl⟩
     replace H : (some (strOfNums y225)) = some r := by first | (rw [hy225]; with_reducible exact H) | (have H2_ := (Option.bind_some _ _).symm.trans H; rw [hy225]; with_reducible exact H2_) | (have H2_ := (Option.bind_some _ _).symm.trans H; with_reducible exact H2_) | with_reducible exact H | (rw [hy225]; exact H) | exact H
     have Ny225 := aS_ hy225
     clear hy225
     obtain rfl := Option.some.inj H
     go_enter Try.func104, Try.ntmps104
     go_wp2_with (first | (refine cl_ (some 7) Try.func105 #[.int .i64 (wrap64 (a0))] ?_; (with_reducible refine (sr01ok.calls (wrap64 (a0)) true _ A2.out).mono ?_); rintro e w' ⟨rfl, ⟨nd, rfl⟩⟩; refine ⟨_, rfl, ?_⟩) | (refine cl_ (some 10) Try.func106 #[.int .i64 (wrap64 (a0))] ?_; (with_reducible refine (sr01octets.calls (wrap64 (a0)) t218 _ A4.out).mono ?_); rintro e w' ⟨rfl, ⟨nd, rfl⟩⟩; refine ⟨_, rfl, ?_⟩) | ((with_reducible refine gate_dst (N := 44) rfl ?_); refine Kd.R_lit (Kd.int .u8) _ 5 ?hg (N := 44) ?hd (xs := ([(wrap64 (224 + (wrap64 (Int.tdiv (wrap64 (a0)) 4096)))) % 256, (wrap64 (128 + (Int.tmod (wrap64 (Int.tdiv (wrap64 (a0)) 64)) 64))) % 256, (wrap64 (128 + (Int.tmod (wrap64 (a0)) 64))) % 256] : List Int)) (inner := [.int .u8 ((wrap64 (224 + (wrap64 (Int.tdiv (wrap64 (a0)) 4096)))) % 256), .int .u8 ((wrap64 (128 + (Int.tmod (wrap64 (Int.tdiv (wrap64 (a0)) 64)) 64))) % 256), .int .u8 ((wrap64 (128 + (Int.tmod (wrap64 (a0)) 64))) % 256)]) (ok := fun _ => True) (okp := fun _ => True) ?hr ?hp (fun _ hk => hk) trivial (Below.refl _ _) (Nat.le_refl _) (by simp) ?_; (case hd => rfl); (case hg => rfl); (case hr => first | (go_simp; done) | (go_simp; rfl)); (case hp => exact (Reps.one (show Kd.M (Kd.int .u8) _ _ _ ((wrap64 (224 + (wrap64 (Int.tdiv (wrap64 (a0)) 4096)))) % 256) [.int .u8 ((wrap64 (224 + (wrap64 (Int.tdiv (wrap64 (a0)) 4096)))) % 256)] from rfl) (Reps.one (show Kd.M (Kd.int .u8) _ _ _ ((wrap64 (128 + (Int.tmod (wrap64 (Int.tdiv (wrap64 (a0)) 64)) 64))) % 256) [.int .u8 ((wrap64 (128 + (Int.tmod (wrap64 (Int.tdiv (wrap64 (a0)) 64)) 64))) % 256)] from rfl) (Reps.one (show Kd.M (Kd.int .u8) _ _ _ ((wrap64 (128 + (Int.tmod (wrap64 (a0)) 64))) % 256) [.int .u8 ((wrap64 (128 + (Int.tmod (wrap64 (a0)) 64))) % 256)] from rfl) (Reps.none _ _))))); intro v226 w14 ho15 hb hg_ hnew_; clear hg_ hnew_; (first | rw [← Ny225.out] at ho15 | (simp only [Int.reduceToNat] at ho15; rw [← Ny225.out] at ho15)); have HO227 := aS_ (Kd.R_lower ho15 (below_size (wk HB.out))); replace HB := bw_ HB hb; clear hb ho15; have hcv16 := own_string (P := Try.prog) Try.underlying39 Try.underlying5 Try.underlying9 (Kd.own_of_R HO227.out)))
     go_ret
     exact ⟨t1, wk HB.out⟩
    ·rw [if_neg c13] at H
     have c13b0 := beq_eq_false_iff_ne.mpr c13
     have c13b1 := bne_iff_ne.mpr c13
     obtain ⟨y228, hy228⟩ : ∃ y_ : List Int, y_ = (([(wrap64 (240 + (wrap64 (Int.tdiv (wrap64 (a0)) 262144)))) % 256, (wrap64 (128 + (Int.tmod (wrap64 (Int.tdiv (wrap64 (a0)) 4096)) 64))) % 256, (wrap64 (128 + (Int.tmod (wrap64 (Int.tdiv (wrap64 (a0)) 64)) 64))) % 256, (wrap64 (128 + (Int.tmod (wrap64 (a0)) 64))) % 256] : List Int)) := ⟨_, rfl⟩
     replace H : (some (strOfNums y228)) = some r := by first | (rw [hy228]; with_reducible exact H) | (have H2_ := (Option.bind_some _ _).symm.trans H; rw [hy228]; with_reducible exact H2_) | (have H2_ := (Option.bind_some _ _).symm.trans H; with_reducible exact H2_) | with_reducible exact H | (rw [hy228]; exact H) | exact H
     have Ny228 := aS_ hy228
     clear hy228
     obtain rfl := Option.some.inj H
     go_enter Try.func104, Try.ntmps104
     go_wp2_with (first | (refine cl_ (some 7) Try.func105 #[.int .i64 (wrap64 (a0))] ?_; (with_reducible refine (sr01ok.calls (wrap64 (a0)) true _ A2.out).mono ?_); rintro e w' ⟨rfl, ⟨nd, rfl⟩⟩; refine ⟨_, rfl, ?_⟩) | (refine cl_ (some 10) Try.func106 #[.int .i64 (wrap64 (a0))] ?_; (with_reducible refine (sr01octets.calls (wrap64 (a0)) t218 _ A4.out).mono ?_); rintro e w' ⟨rfl, ⟨nd, rfl⟩⟩; refine ⟨_, rfl, ?_⟩) | ((with_reducible refine gate_dst (N := 64) rfl ?_); refine Kd.R_lit (Kd.int .u8) _ 5 ?hg (N := 64) ?hd (xs := ([(wrap64 (240 + (wrap64 (Int.tdiv (wrap64 (a0)) 262144)))) % 256, (wrap64 (128 + (Int.tmod (wrap64 (Int.tdiv (wrap64 (a0)) 4096)) 64))) % 256, (wrap64 (128 + (Int.tmod (wrap64 (Int.tdiv (wrap64 (a0)) 64)) 64))) % 256, (wrap64 (128 + (Int.tmod (wrap64 (a0)) 64))) % 256] : List Int)) (inner := [.int .u8 ((wrap64 (240 + (wrap64 (Int.tdiv (wrap64 (a0)) 262144)))) % 256), .int .u8 ((wrap64 (128 + (Int.tmod (wrap64 (Int.tdiv (wrap64 (a0)) 4096)) 64))) % 256), .int .u8 ((wrap64 (128 + (Int.tmod (wrap64 (Int.tdiv (wrap64 (a0)) 64)) 64))) % 256), .int .u8 ((wrap64 (128 + (Int.tmod (wrap64 (a0)) 64))) % 256)]) (ok := fun _ => True) (okp := fun _ => True) ?hr ?hp (fun _ hk => hk) trivial (Below.refl _ _) (Nat.le_refl _) (by simp) ?_; (case hd => rfl); (case hg => rfl); (case hr => first | (go_simp; done) | (go_simp; rfl)); (case hp => exact (Reps.one (show Kd.M (Kd.int .u8) _ _ _ ((wrap64 (240 + (wrap64 (Int.tdiv (wrap64 (a0)) 262144)))) % 256) [.int .u8 ((wrap64 (240 + (wrap64 (Int.tdiv (wrap64 (a0)) 262144)))) % 256)] from rfl) (Reps.one (show Kd.M (Kd.int .u8) _ _ _ ((wrap64 (128 + (Int.tmod (wrap64 (Int.tdiv (wrap64 (a0)) 4096)) 64))) % 256) [.int .u8 ((wrap64 (128 + (Int.tmod (wrap64 (Int.tdiv (wrap64 (a0)) 4096)) 64))) % 256)] from rfl) (Reps.one (show Kd.M (Kd.int .u8) _ _ _ ((wrap64 (128 + (Int.tmod (wrap64 (Int.tdiv (wrap64 (a0)) 64)) 64))) % 256) [.int .u8 ((wrap64 (128 + (Int.tmod (wrap64 (Int.tdiv (wrap64 (a0)) 64)) 64))) % 256)] from rfl) (Reps.one (show Kd.M (Kd.int .u8) _ _ _ ((wrap64 (128 + (Int.tmod (wrap64 (a0)) 64))) % 256) [.int .u8 ((wrap64 (128 + (Int.tmod (wrap64 (a0)) 64))) % 256)] from rfl) (Reps.none _ _)))))); intro v229 w17 ho18 hb hg_ hnew_; clear hg_ hnew_; (first | rw [← Ny228.out] at ho18 | (simp only [Int.reduceToNat] at ho18; rw [← Ny228.out] at ho18)); have HO230 := aS_ (Kd.R_lower ho18 (below_size (wk HB.out))); replace HB := bw_ HB hb; clear hb ho18; have hcv19 := own_string (P := Try.prog) Try.underlying39 Try.underlying5 Try.underlying9 (Kd.own_of_R HO230.out)))
     go_ret
     exact ⟨t1, wk HB.out⟩
 ·replace c3 := Bool.eq_false_iff.mpr c3
  subst c3
  rw [if_neg Bool.false_ne_true] at H
  obtain rfl := Option.some.inj H
  go_enter Try.func104, Try.ntmps104
  go_wp2_with (first | (refine cl_ (some 7) Try.func105 #[.int .i64 (wrap64 (a0))] ?_; (with_reducible refine (sr01ok.calls (wrap64 (a0)) false _ A2.out).mono ?_); rintro e w' ⟨rfl, ⟨nd, rfl⟩⟩; refine ⟨_, rfl, ?_⟩))
  go_ret
  exact ⟨t1, wk HB.out⟩
end Go.Proofs.Ytnndanfghlnpfaa.P
