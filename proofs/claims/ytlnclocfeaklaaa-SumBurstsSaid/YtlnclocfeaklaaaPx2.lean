-- Laid by a program of this session (wip/tools/fork_print.py over the kit's print) out of Lean's print of the translation. Lean checks it.
import Derived.Test.YtlnclocfeaklaaaPx0
import Derived.Test.YtlnclocfeaklaaaPx1
namespace Go.Proofs.Ytlnclocfeaklaaa.P
open Go.RowKit Go.Proofs.YtlnclocfeaklaaaW.PrintWords Go.Proofs.YtlnclocfeaklaaaW.PrintLast Go.Proofs.YtlnclocfeaklaaaW.PrintMore
attribute [local go_sem] max2_int min2_int max_two min_two max_three min_three max_four min_four   -- for this text's walks alone
set_option linter.unusedVariables false
set_option linter.unusedSimpArgs false

/-! ### styluslaw02_SumBursts: function 6 -/
-- NEEDS stylus/styluslaw02.lives stylus/sum.Of
-- []byte(s), bits of it others, string(b)
def styluslaw02_SumBursts.flip (xs : List Int) (j : Int) : List Int := xs.set (j / 8).toNat (Go.bits .xor .u8 (rd xs (j / 8)) (2 ^ (j % 8).toNat % 256))
def styluslaw02_SumBursts.tail (k : Nat) (s : ByteArray) (xs : List Int) : Option Bool :=
  (sum_Of.f k (strOfNums xs)).bind fun a => (sum_Of.f k s).bind fun b => (if a = b then (some false) else (styluslaw02_lives.f k))
def styluslaw02_SumBursts.l0 : Nat → ByteArray → Int → Int → List Int → Int → Option Bool
  | 0, _, _, _, _, _ => none
  | k + 1, s, at_, p, xs, i => if i < 32 then (if p / 2 ^ i.toNat % 2 = 0 then (styluslaw02_SumBursts.l0 k s at_ p xs (i + 1)) else
      (if (at_ + i) / 8 ≥ (s.size : Int) then (styluslaw02_lives.f k) else (styluslaw02_SumBursts.l0 k s at_ p (styluslaw02_SumBursts.flip xs (at_ + i)) (i + 1)))) else (styluslaw02_SumBursts.tail k s xs)
def styluslaw02_SumBursts.f (k : Nat) (s : ByteArray) (at_ : Int) (p : Int) : Option Bool :=
  if 0 ≤ p ∧ p ≤ 4294967295 then (if (s.size : Int) > 1000 ∨ p = 0 ∨ at_ < 0 ∨ at_ > 8 * (s.size : Int) then (styluslaw02_lives.f k) else (styluslaw02_SumBursts.l0 k s at_ p (bytesOf s) 0)) else none
theorem styluslaw02_SumBursts.mono_l : ∀ k, (∀ s a p xs i, LeO (styluslaw02_SumBursts.l0 k s a p xs i) (styluslaw02_SumBursts.l0 (k + 1) s a p xs i))
  | 0 => fun _ _ _ _ _ r h => by simp [styluslaw02_SumBursts.l0] at h
  | k + 1 => by
    have ih := styluslaw02_SumBursts.mono_l k
    intro s a p xs i
    unfold styluslaw02_SumBursts.l0 styluslaw02_SumBursts.tail
    exact LeO.ite (LeO.ite (ih _ _ _ _ _) (LeO.ite (styluslaw02_lives.mono _) (ih _ _ _ _ _))) (LeO.bind (sum_Of.mono _ _) fun _ => LeO.bind (sum_Of.mono _ _) fun _ => LeO.ite (LeO.refl _) (styluslaw02_lives.mono _))
theorem styluslaw02_SumBursts.mono : ∀ a0 a1 a2 k, LeO (styluslaw02_SumBursts.f k a0 a1 a2) (styluslaw02_SumBursts.f (k + 1) a0 a1 a2) := by
  intro a0 a1 a2 k
  unfold styluslaw02_SumBursts.f
  exact LeO.ite (LeO.ite (styluslaw02_lives.mono _) (styluslaw02_SumBursts.mono_l k _ _ _ _ _)) (LeO.refl _)
theorem styluslaw02_SumBursts.free (W : World) (e : TypeId) (s : ByteArray) (i : Nat) (h : i < s.size) : (Lib.bytesWorld W e s).frozen? ⟨W.heap.size, i, none⟩ = false := by
  simp only [World.frozen?, Lib.bytesWorld_at_new]
  have : ¬ (Lib.bytesCells W e s).size ≤ i := by
    simp only [Lib.bytesCells, Array.size_append, Array.size_map]
    have : s.data.size = s.size := rfl
    omega
  simp [this]
theorem styluslaw02_SumBursts.put {w : World} {b n : Nat} {xs : List Int} (h : ReadsInt w .u8 (some ⟨b, 0, none⟩) n xs) (i : Nat) (hi : i < n) (x : Int) : ReadsInt (w.setCell ⟨b, i, none⟩ (.int .u8 x)) .u8 (some ⟨b, 0, none⟩) n (xs.set i x) := by
  refine ⟨by rw [List.length_set]; exact h.1, h.2.1, fun hn => ⟨_, rfl, fun j hj => ?_⟩⟩
  obtain ⟨ad, e, hc⟩ := h.2.2 hn
  obtain rfl := Option.some.inj e
  have hcj := hc j hj
  rw [add_plain] at hcj ⊢
  have hl : xs.length = n := h.1
  by_cases hij : i = j
  · subst hij
    rw [World.cell?_setCell_same _ _ _ hcj]
    simp [List.getD_eq_getElem?_getD, hl, hi]
  · rw [World.cell?_setCell_other _ _ _ _ (by intro h; simp only [Addr.mk.injEq] at h; omega), hcj]
    simp [List.getD_eq_getElem?_getD, List.getElem?_set_ne hij]
set_option maxHeartbeats 8000000 in
set_option maxRecDepth 100000 in
theorem styluslaw02_SumBursts.calls (k : Nat) (a0 : ByteArray) (a1 : Int) (a2 : Int) (r : Bool) (w : World) (h : styluslaw02_SumBursts.f k a0 a1 a2 = some r) :
    Calls Try.prog 6 #[.string a0, .int .i64 a1, .int .u32 a2] w fun e w' => e = .returned (.bool r) ∧ Below w.heap.size w w' := by
  unfold styluslaw02_SumBursts.f at h
  by_cases PR : 0 ≤ a2 ∧ a2 ≤ 4294967295
  rotate_left
  · rw [if_neg PR] at h
    cases h
  rw [if_pos PR] at h
  have HP := Aside0.mk PR
  clear PR
  go_enter Try.func6, Try.ntmps6
  by_cases G : (a0.size : Int) > 1000 ∨ a2 = 0 ∨ a1 < 0 ∨ a1 > 8 * (a0.size : Int)
  · rw [if_pos G] at h
    have HH := Aside0.mk h
    clear h
    go_upto_region 1 with fail
    go_cut [27] (fun v27 wx => v27 = .bool true ∧ w = wx)
    case first =>
      by_cases g1 : (a0.size : Int) > 1000
      · have g1b : decide (1000 < (a0.size : Int)) = true := decide_eq_true g1
        have g1c : decide (1000 < a0.size) = true := decide_eq_true (by omega)
        clear G g1
        go_wp2_with fail
        go_meet
        exact ⟨rfl, rfl⟩
      have g1b : decide (1000 < (a0.size : Int)) = false := decide_eq_false g1
      have g1c : decide (1000 < a0.size) = false := decide_eq_false (by omega)
      by_cases g2 : a2 = 0
      · have g2b : (a2 == 0) = true := beq_iff_eq.mpr g2
        clear G g1 g2
        go_wp2_with fail
        go_meet
        exact ⟨rfl, rfl⟩
      have g2b : (a2 == 0) = false := beq_eq_false_iff_ne.mpr g2
      by_cases g3 : a1 < 0
      · have g3b : decide (a1 < 0) = true := decide_eq_true g3
        clear G g1 g2 g3
        go_wp2_with fail
        go_meet
        exact ⟨rfl, rfl⟩
      have g3b : decide (a1 < 0) = false := decide_eq_false g3
      have g4b : decide (8 * (a0.size : Int) < a1) = true := decide_eq_true (by omega)
      have g1d : a0.size ≤ 1000 := by omega
      clear G g1 g2 g3
      go_wp2_with fail
      go_meet
      exact ⟨rfl, rfl⟩
    obtain ⟨rfl, rfl⟩ := hcut
    go_wp2_with (go_at_call 9; (with_reducible refine (styluslaw02_lives.calls k r _ HH.out).mono ?_); rintro e w2 ⟨rfl, hb1⟩)
    go_ret
    exact ⟨rfl, hb1⟩
  rw [if_neg G] at h
  have HH := Aside0.mk h
  have z1 : a0.size ≤ 1000 := by omega
  have z2 : 0 ≤ a1 := by omega
  have z3 : a1 ≤ 8 * (a0.size : Int) := by omega
  have g1b : decide (1000 < (a0.size : Int)) = false := decide_eq_false (by omega)
  have g1c : decide (1000 < a0.size) = false := decide_eq_false (by omega)
  have g2b : (a2 == 0) = false := beq_eq_false_iff_ne.mpr (by omega)
  have g3b : decide (a1 < 0) = false := decide_eq_false (by omega)
  have g4b : decide (8 * (a0.size : Int) < a1) = false := decide_eq_false (by omega)
  clear h G
  go_upto_region 1 with fail
  go_cut [27] (fun v27 wx => v27 = .bool false ∧ w = wx)
  case first =>
    clear z2 z3
    go_wp2_with fail
    go_meet
    exact ⟨rfl, rfl⟩
  obtain ⟨rfl, rfl⟩ := hcut
  clear g1b g1c g2b g3b g4b
  have kb := fun W => print_bytes (P := Try.prog) 9 30 5 Try.underlying9 Try.underlying30 Try.underlying5 a0 W
  have hsz := Nat.le_trans z1 (by decide : 1000 ≤ 9223372036854775807)
  have Z1 := Aside0.mk z1
  have Z2 := Aside0.mk z2
  have Z3 := Aside0.mk z3
  have HSZ := Aside0.mk hsz
  clear hsz z2 z3
  go_upto_region 3 with fail
  go_cut [7] (fun v7 wx => ∃ b c, v7 = .slice (some ⟨b, 0, none⟩) a0.size c ∧ Aside0 (w.heap.size ≤ b ∧ ReadsInt wx .u8 (some ⟨b, 0, none⟩) a0.size (bytesOf a0) ∧ (∀ i, i < a0.size → wx.frozen? ⟨b, i, none⟩ = false) ∧ Below w.heap.size w wx))
  case first =>
    go_wp2_with fail
    go_meet
    exact ⟨_, _, rfl, ⟨Nat.le_refl _, bytes_reads _ _ a0 HSZ.out, fun i hi => styluslaw02_SumBursts.free _ _ _ _ hi, bytes_below (Below.refl _ _) (Nat.le_refl _) _ _⟩⟩
  obtain ⟨b, cp, rfl, HB⟩ := hcut
  clear kb
  go_upto_region 4 with fail
  go_wp2_with fail
  go_loopg [8] k (fun kq v8 wx => ∃ (i : Int) (xs : List Int), v8 = .int .i64 i ∧ Aside0 (0 ≤ i ∧ i ≤ 32) ∧ Aside0 (styluslaw02_SumBursts.l0 kq a0 a1 a2 xs i = some r) ∧ Aside0 (kq ≤ k) ∧ Aside0 (w.heap.size ≤ b ∧ ReadsInt wx .u8 (some ⟨b, 0, none⟩) a0.size xs ∧ (∀ i, i < a0.size → wx.frozen? ⟨b, i, none⟩ = false) ∧ Below w.heap.size w wx))
  case atStart =>
    exact ⟨0, _, rfl, ⟨by omega, by omega⟩, HH, ⟨Nat.le_refl _⟩, HB⟩
  case round =>
    obtain ⟨i, xs, rfl, HI, HL, HK1, HB⟩ := hrel
    cases gk with
    | zero => exact absurd HL.out (by simp [styluslaw02_SumBursts.l0])
    | succ k1 =>
      have H := HL.out
      clear HL
      unfold styluslaw02_SumBursts.l0 at H
      by_cases c1 : i < 32
      · rw [if_pos c1] at H
        have c1b : decide (i < 32) = true := decide_eq_true c1
        have i0 : 0 ≤ i := HI.out.1
        have p0 : 0 ≤ a2 / 2 ^ i.toNat := Int.ediv_nonneg HP.out.1 (Int.le_of_lt (Int.pow_pos (by decide)))
        have et : (a2 / 2 ^ i.toNat).tmod 2 = a2 / 2 ^ i.toNat % 2 := Int.tmod_eq_emod_of_nonneg p0
        have e4 : wrap64 (i + 1) = i + 1 := by unfold wrap64; omega
        have hk1 : k1 + 1 ≤ k := HK1.out
        replace HK1 := Aside0.mk (Nat.le_of_succ_le hk1)
        clear p0 hk1
        by_cases c2 : a2 / 2 ^ i.toNat % 2 = 0
        · rw [if_pos c2] at H
          have H' := Aside0.mk H
          have HI' := Aside0.mk (show 0 ≤ i + 1 ∧ i + 1 ≤ 32 by omega)
          have c2b : (a2 / 2 ^ i.toNat % 2 == 0) = true := beq_iff_eq.mpr c2
          clear H c2
          go_wp2_with fail
          go_roundg k1
          case measure => omega
          case rel => exact ⟨i + 1, xs, rfl, HI', H', HK1, HB⟩
        · rw [if_neg c2] at H
          have c2b : (a2 / 2 ^ i.toNat % 2 == 0) = false := beq_eq_false_iff_ne.mpr c2
          have z2 := Z2.out
          have z3 := Z3.out
          have e2 : wrap64 (a1 + i) = a1 + i := by unfold wrap64; omega
          have e3 : (a1 + i).tdiv 8 = (a1 + i) / 8 := Int.tdiv_eq_ediv_of_nonneg (by omega)
          have e5 : wrap64 ((a1 + i) / 8) = (a1 + i) / 8 := by unfold wrap64; omega
          have e6 : (a1 + i).tmod 8 = (a1 + i) % 8 := Int.tmod_eq_emod_of_nonneg (by omega)
          by_cases c3 : (a1 + i) / 8 ≥ (a0.size : Int)
          · rw [if_pos c3] at H
            have H' := Aside0.mk H
            have c3b : decide ((a0.size : Int) ≤ (a1 + i) / 8) = true := decide_eq_true c3
            clear H c2
            go_wp2_with (go_at_call 9; (with_reducible refine (styluslaw02_lives.calls k1 r _ H'.out).mono ?_); rintro e w2 ⟨rfl, hb1⟩)
            go_ret
            exact ⟨rfl, below_step HB.out.2.2.2 hb1⟩
          · rw [if_neg c3] at H
            have H' := Aside0.mk H
            have c3b : decide ((a0.size : Int) ≤ (a1 + i) / 8) = false := decide_eq_false c3
            have i1 : 0 ≤ (a1 + i) / 8 := by omega
            have i2 : (a1 + i) / 8 < (a0.size : Int) := by omega
            have i3 : ((a1 + i) / 8).toNat < a0.size := by omega
            have HI' := Aside0.mk (show 0 ≤ i + 1 ∧ i + 1 ≤ 32 by omega)
            obtain ⟨ad_, ea_, hcl⟩ := HB.out.2.1.at_ ((a1 + i) / 8) i1 (by omega)
            obtain rfl := Option.some.inj ea_
            rw [add_plain] at hcl
            have hfr := HB.out.2.2.1 _ i3
            have hcd : wr.drew.cell? ⟨b, ((a1 + i) / 8).toNat, none⟩ = some (.int .u8 (rd xs ((a1 + i) / 8))) := hcl
            have hfd : wr.drew.frozen? ⟨b, ((a1 + i) / 8).toNat, none⟩ = false := hfr
            have I3 := Aside0.mk i3
            clear H c2 i3 ea_
            go_upto_region 11 with fail
            go_region
            go_wp2_with fail
            go_roundg k1
            case measure => omega
            case rel => exact ⟨i + 1, styluslaw02_SumBursts.flip xs (a1 + i), rfl, HI', H', HK1, ⟨HB.out.1, styluslaw02_SumBursts.put HB.out.2.1 _ I3.out _, fun i hi => (World.frozen?_setCell _ _ _ _).trans (HB.out.2.2.1 i hi), below_drew (HB.out.2.2.2.setCell HB.out.1 _)⟩⟩
      · rw [if_neg c1] at H
        have c1b : decide (i < 32) = false := decide_eq_false c1
        have hst := string_of_reads (P := Try.prog) (c := cp) Try.underlying30 Try.underlying5 Try.underlying9 HB.out.2.1
        unfold styluslaw02_SumBursts.tail at H
        replace H := Option.bind_eq_some_iff.mp H
        obtain ⟨a, A1, H⟩ := H
        replace H := Option.bind_eq_some_iff.mp H
        obtain ⟨b2, A2, H⟩ := H
        have HA1 := Aside0.mk A1
        have HA2 := Aside0.mk A2
        clear A1 A2 c1
        by_cases c4 : a = b2
        · rw [if_pos c4] at H
          obtain rfl := Option.some.inj H
          have c4b : (a != b2) = false := by rw [c4]; exact bne_self_eq_false _
          clear H c4
          go_wp2_with (first
            | (go_at_call 10; (with_reducible refine (sum_Of.calls k1 _ _ _ HA1.out).mono ?_); rintro e w2 ⟨rfl, hb1⟩)
            | (go_at_call 10; (with_reducible refine (sum_Of.calls k1 _ _ _ HA2.out).mono ?_); rintro e w3 ⟨rfl, hb2⟩))
          go_ret
          exact ⟨rfl, below_step (below_step HB.out.2.2.2 hb1) hb2⟩
        · rw [if_neg c4] at H
          have HL := Aside0.mk H
          have c4b : (a != b2) = true := bne_iff_ne.mpr c4
          clear H c4
          go_wp2_with (first
            | (go_at_call 10; (with_reducible refine (sum_Of.calls k1 _ _ _ HA1.out).mono ?_); rintro e w2 ⟨rfl, hb1⟩)
            | (go_at_call 10; (with_reducible refine (sum_Of.calls k1 _ _ _ HA2.out).mono ?_); rintro e w3 ⟨rfl, hb2⟩)
            | (go_at_call 9; (with_reducible refine (styluslaw02_lives.calls k1 r _ HL.out).mono ?_); rintro e w4 ⟨rfl, hb4⟩))
          go_ret
          exact ⟨rfl, below_step (below_step (below_step HB.out.2.2.2 hb1) hb2) hb4⟩


/-- THE ONE PURE STATEMENT of styluslaw02_SumBursts. -/
def styluslaw02_SumBursts.Pure : Prop := ∀ (x0 : ByteArray) (x1 : Int) (x2 : Int), x0.size ≤ 140737488351232 → (Lit.int .i64 x1).wf = true → (Lit.int .u32 x2).wf = true → ∃ k, styluslaw02_SumBursts.f k x0 x1 x2 = some true
end Go.Proofs.Ytlnclocfeaklaaa.P
