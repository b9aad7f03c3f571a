-- Laid by a program of this session (wip/tools/fork_print.py over the kit's print) out of Lean's print of the translation. Lean checks it.
import Derived.Test.YtinoidkmobmcpaaPx0
import Derived.Test.YtinoidkmobmcpaaPx3
import Derived.Test.YtinoidkmobmcpaaPx4
import Derived.Test.YtinoidkmobmcpaaPx5
import Derived.Test.YtinoidkmobmcpaaPx6
import Derived.Test.YtinoidkmobmcpaaPx7
import Derived.Test.YtinoidkmobmcpaaPx8
namespace Go.Proofs.Ytinoidkmobmcpaa.P
open Go.RowKit Go.Proofs.YtinoidkmobmcpaaW.PrintWords Go.Proofs.YtinoidkmobmcpaaW.PrintLast Go.Proofs.YtinoidkmobmcpaaW.PrintMore
attribute [local go_sem] max2_int min2_int max_two min_two max_three min_three max_four min_four   -- for this text's walks alone
set_option linter.unusedVariables false
set_option linter.unusedSimpArgs false

/-! ### styluslaw13_ScanStops: function 5 -/
-- NEEDS stylus/styluslaw13.lives stylus/styluslaw13.small stylus/styluslaw13.laid stylus/scan.Run stylus/scan.Why
-- []byte(s), a byte of it another one, string(b) twice; none stands for a false answer
abbrev stops_P := S41
abbrev stops_F := S39
def styluslaw13_ScanStops.alter (s : ByteArray) (i : Int) (y : Int) : ByteArray := strOfNums ((bytesOf s).set i.toNat (Go.bits .xor .u8 (bt s i) y))
def styluslaw13_ScanStops.skip (l : List stops_P) (t : Bool) (which at_ y : Int) : Prop := t = false ∨ which < 0 ∨ (l.length : Int) ≤ which ∨ at_ < 0 ∨ ((rd_T41 l which).f0.size : Int) ≤ at_ ∨ y = 0
instance (l : List stops_P) (t : Bool) (which at_ y : Int) : Decidable (styluslaw13_ScanStops.skip l t which at_ y) := by unfold styluslaw13_ScanStops.skip; infer_instance
def styluslaw13_ScanStops.told (k : Nat) (c : ByteArray) (which p : Int) : Option Bool :=
  (scan_Run.f k c 7 0).bind fun o => if (o.1.length : Int) = which ∧ o.2 = p then ((scan_Why.f k c 7 0).bind fun e => if e = 19 then (styluslaw13_lives.f k) else none) else none
def styluslaw13_ScanStops.f (k : Nat) (l0 : List stops_P) (a1_0 : Int) (a1_1 : Int) (a1_2 : Int) : Option Bool :=
  (styluslaw13_small.f k l0 7 0).bind fun t => if styluslaw13_ScanStops.skip l0 t a1_0 a1_1 a1_2 then (styluslaw13_lives.f k) else ((styluslaw13_laid.f k l0 7 0).bind fun o =>
    if o.1.size ≤ 100000 ∧ a1_0 < (o.2.length : Int) ∧ 0 ≤ rd o.2 a1_0 ∧ a1_1 ≤ 100000 ∧ rd o.2 a1_0 + 16 + a1_1 < (o.1.size : Int) then
      (styluslaw13_ScanStops.told k (styluslaw13_ScanStops.alter o.1 (rd o.2 a1_0 + 16 + a1_1) a1_2) a1_0 (rd o.2 a1_0)) else none)
theorem styluslaw13_ScanStops.mono : ∀ a0 a1 a2 a3 k, LeO (styluslaw13_ScanStops.f k a0 a1 a2 a3) (styluslaw13_ScanStops.f (k + 1) a0 a1 a2 a3) := by
  intro a0 a1 a2 a3 k
  have ht : ∀ c x p, LeO (styluslaw13_ScanStops.told k c x p) (styluslaw13_ScanStops.told (k + 1) c x p) := fun c x p =>
    LeO.bind (scan_Run.mono _ _ _ _) fun _ => LeO.ite (LeO.bind (scan_Why.mono _ _ _ _) fun _ => LeO.ite (styluslaw13_lives.mono _) (LeO.refl _)) (LeO.refl _)
  unfold styluslaw13_ScanStops.f
  exact LeO.bind (styluslaw13_small.mono _ _ _ _) fun _ => LeO.ite (styluslaw13_lives.mono _) (LeO.bind (styluslaw13_laid.mono _ _ _ _) fun _ => LeO.ite (ht _ _ _) (LeO.refl _))
theorem styluslaw13_ScanStops.free (W : World) (e : TypeId) (s : ByteArray) (i : Nat) (h : i < s.size) : (Lib.bytesWorld W e s).frozen? ⟨W.heap.size, i, none⟩ = false := by
  simp only [World.frozen?, Lib.bytesWorld_at_new]
  have : ¬ (Lib.bytesCells W e s).size ≤ i := by
    simp only [Lib.bytesCells, Array.size_append, Array.size_map]
    have : s.data.size = s.size := rfl
    omega
  simp [this]
theorem styluslaw13_ScanStops.at_ (W : World) (e : TypeId) (s : ByteArray) (i : Int) (h0 : 0 ≤ i) (h1 : i < (s.size : Int)) (hs : s.size ≤ 9223372036854775807) : (Lib.bytesWorld W e s).cell? ⟨W.heap.size, i.toNat, none⟩ = some (.int .u8 (bt s i)) := by
  obtain ⟨ad_, ea_, hc_⟩ := (bytes_reads W e s hs).at_ i h0 (by omega)
  obtain rfl := Option.some.inj ea_
  rwa [add_plain, rd_bytesOf] at hc_
theorem styluslaw13_ScanStops.put {w : World} {b n : Nat} {xs : List Int} (h : ReadsInt w .u8 (some ⟨b, 0, none⟩) n xs) (i : Nat) (hi : i < n) (x : Int) : ReadsInt (w.setCell ⟨b, i, none⟩ (.int .u8 x)) .u8 (some ⟨b, 0, none⟩) n (xs.set i x) := by
  refine ⟨by rw [List.length_set]; exact h.1, h.2.1, fun hn => ⟨_, rfl, fun j hj => ?_⟩⟩
  obtain ⟨ad, e, hc⟩ := h.2.2 hn
  obtain rfl := Option.some.inj e
  have hcj := hc j hj
  rw [add_plain] at hcj ⊢
  have hl : xs.length = n := h.1
  by_cases hij : i = j
  · subst hij
    rw [World.cell?_setCell_same _ _ _ hcj]
    simp [List.getD_eq_getElem?_getD, hl, hi]
  · rw [World.cell?_setCell_other _ _ _ _ (by intro h; simp only [Addr.mk.injEq] at h; omega), hcj]
    simp [List.getD_eq_getElem?_getD, List.getElem?_set_ne hij]
set_option maxHeartbeats 8000000 in
set_option maxRecDepth 100000 in
theorem styluslaw13_ScanStops.calls (k : Nat) (A0 : Option Addr) (c0 : Nat) (l0 : List stops_P) (a1_0 : Int) (a1_1 : Int) (a1_2 : Int) (r : Bool) (w : World) (hr0 : Kd.C k41 w A0 l0.length l0) (hc0 : l0.length ≤ c0) (h : styluslaw13_ScanStops.f k l0 a1_0 a1_1 a1_2 = some r) :
    Calls Try.prog 5 #[.slice A0 l0.length c0, .agg #[.int .i64 a1_0, .int .i64 a1_1, .int .u8 a1_2]] w fun e w' => e = .returned (.bool r) ∧ Below w.heap.size w w' := by
  have huC := Try.underlying44
  have huP := Try.underlying41
  have HR := Aside0.mk hr0
  have HC := Aside0.mk hc0
  unfold styluslaw13_ScanStops.f at h
  have HH := Aside0.mk h
  clear h hr0 hc0
  go_enter Try.func5, Try.ntmps5
  go_upto_region 1 with fail
  go_cut [5, 6, 7] (fun v5 v6 v7 wx => v5 = .int .i64 a1_0 ∧ v6 = .int .i64 a1_1 ∧ v7 = .int .u8 a1_2 ∧ Aside0 (Below w.heap.size w wx))
  case first =>
    go_quiet (fail)
    go_wp2_with fail
    go_meet
    exact ⟨rfl, rfl, rfl, ⟨pw_below_drewN (below_alloc (Below.refl _ _) _) _⟩⟩
  obtain ⟨rfl, rfl, rfl, BK⟩ := hcut
  have h := HH.out
  clear HH
  replace h := Option.bind_eq_some_iff.mp h
  obtain ⟨t, A1, h⟩ := h
  have HA1 := Aside0.mk A1
  clear A1
  by_cases G : styluslaw13_ScanStops.skip l0 t a1_0 a1_1 a1_2
  · rw [if_pos G] at h
    have HL := Aside0.mk h
    clear h
    go_upto_region 2 with fail
    go_cut [50] (fun v50 wx => v50 = .bool true ∧ Aside0 (Below w.heap.size w wx))
    case first =>
      unfold styluslaw13_ScanStops.skip at G
      cases t with
      | false =>
        clear G
        go_wp2_with ((go_at_call 16; (with_reducible refine (styluslaw13_small.calls k _ _ l0 7 0 false _ ?side1 ?side2 HA1.out).mono ?_); (case side1 => repeat (first | exact (Kd.C_below HR.out BK.out) | (with_reducible refine Kd.C_drewN ?_ _) | (with_reducible refine Kd.C_drew ?_))); (case side2 => exact HC.out); rintro e w2_ ⟨rfl, ⟨nd, rfl⟩⟩))
        repeat (go_quiet ((go_at_call 16; (with_reducible refine (styluslaw13_small.calls k _ _ l0 7 0 false _ ?side1 ?side2 HA1.out).mono ?_); (case side1 => repeat (first | exact (Kd.C_below HR.out BK.out) | (with_reducible refine Kd.C_drewN ?_ _) | (with_reducible refine Kd.C_drew ?_))); (case side2 => exact HC.out); rintro e w2_ ⟨rfl, ⟨nd, rfl⟩⟩)); try go_wp2_with ((go_at_call 16; (with_reducible refine (styluslaw13_small.calls k _ _ l0 7 0 false _ ?side1 ?side2 HA1.out).mono ?_); (case side1 => repeat (first | exact (Kd.C_below HR.out BK.out) | (with_reducible refine Kd.C_drewN ?_ _) | (with_reducible refine Kd.C_drew ?_))); (case side2 => exact HC.out); rintro e w2_ ⟨rfl, ⟨nd, rfl⟩⟩)))
        go_meet
        exact ⟨rfl, ⟨pw_below_drewN BK.out _⟩⟩
      | true =>
        by_cases g1 : a1_0 < 0
        · have g1b : decide (a1_0 < 0) = true := decide_eq_true g1
          clear G g1
          go_wp2_with ((go_at_call 16; (with_reducible refine (styluslaw13_small.calls k _ _ l0 7 0 true _ ?side1 ?side2 HA1.out).mono ?_); (case side1 => repeat (first | exact (Kd.C_below HR.out BK.out) | (with_reducible refine Kd.C_drewN ?_ _) | (with_reducible refine Kd.C_drew ?_))); (case side2 => exact HC.out); rintro e w2_ ⟨rfl, ⟨nd, rfl⟩⟩))
          repeat (go_quiet ((go_at_call 16; (with_reducible refine (styluslaw13_small.calls k _ _ l0 7 0 true _ ?side1 ?side2 HA1.out).mono ?_); (case side1 => repeat (first | exact (Kd.C_below HR.out BK.out) | (with_reducible refine Kd.C_drewN ?_ _) | (with_reducible refine Kd.C_drew ?_))); (case side2 => exact HC.out); rintro e w2_ ⟨rfl, ⟨nd, rfl⟩⟩)); try go_wp2_with ((go_at_call 16; (with_reducible refine (styluslaw13_small.calls k _ _ l0 7 0 true _ ?side1 ?side2 HA1.out).mono ?_); (case side1 => repeat (first | exact (Kd.C_below HR.out BK.out) | (with_reducible refine Kd.C_drewN ?_ _) | (with_reducible refine Kd.C_drew ?_))); (case side2 => exact HC.out); rintro e w2_ ⟨rfl, ⟨nd, rfl⟩⟩)))
          go_meet
          exact ⟨rfl, ⟨pw_below_drewN BK.out _⟩⟩
        have g1b : decide (a1_0 < 0) = false := decide_eq_false g1
        by_cases g2 : (l0.length : Int) ≤ a1_0
        · have g2b : decide ((l0.length : Int) ≤ a1_0) = true := decide_eq_true g2
          clear G g1 g2
          go_wp2_with ((go_at_call 16; (with_reducible refine (styluslaw13_small.calls k _ _ l0 7 0 true _ ?side1 ?side2 HA1.out).mono ?_); (case side1 => repeat (first | exact (Kd.C_below HR.out BK.out) | (with_reducible refine Kd.C_drewN ?_ _) | (with_reducible refine Kd.C_drew ?_))); (case side2 => exact HC.out); rintro e w2_ ⟨rfl, ⟨nd, rfl⟩⟩))
          repeat (go_quiet ((go_at_call 16; (with_reducible refine (styluslaw13_small.calls k _ _ l0 7 0 true _ ?side1 ?side2 HA1.out).mono ?_); (case side1 => repeat (first | exact (Kd.C_below HR.out BK.out) | (with_reducible refine Kd.C_drewN ?_ _) | (with_reducible refine Kd.C_drew ?_))); (case side2 => exact HC.out); rintro e w2_ ⟨rfl, ⟨nd, rfl⟩⟩)); try go_wp2_with ((go_at_call 16; (with_reducible refine (styluslaw13_small.calls k _ _ l0 7 0 true _ ?side1 ?side2 HA1.out).mono ?_); (case side1 => repeat (first | exact (Kd.C_below HR.out BK.out) | (with_reducible refine Kd.C_drewN ?_ _) | (with_reducible refine Kd.C_drew ?_))); (case side2 => exact HC.out); rintro e w2_ ⟨rfl, ⟨nd, rfl⟩⟩)))
          go_meet
          exact ⟨rfl, ⟨pw_below_drewN BK.out _⟩⟩
        have g2b : decide ((l0.length : Int) ≤ a1_0) = false := decide_eq_false g2
        by_cases g3 : a1_1 < 0
        · have g3b : decide (a1_1 < 0) = true := decide_eq_true g3
          clear G g1 g2 g3
          go_wp2_with ((go_at_call 16; (with_reducible refine (styluslaw13_small.calls k _ _ l0 7 0 true _ ?side1 ?side2 HA1.out).mono ?_); (case side1 => repeat (first | exact (Kd.C_below HR.out BK.out) | (with_reducible refine Kd.C_drewN ?_ _) | (with_reducible refine Kd.C_drew ?_))); (case side2 => exact HC.out); rintro e w2_ ⟨rfl, ⟨nd, rfl⟩⟩))
          repeat (go_quiet ((go_at_call 16; (with_reducible refine (styluslaw13_small.calls k _ _ l0 7 0 true _ ?side1 ?side2 HA1.out).mono ?_); (case side1 => repeat (first | exact (Kd.C_below HR.out BK.out) | (with_reducible refine Kd.C_drewN ?_ _) | (with_reducible refine Kd.C_drew ?_))); (case side2 => exact HC.out); rintro e w2_ ⟨rfl, ⟨nd, rfl⟩⟩)); try go_wp2_with ((go_at_call 16; (with_reducible refine (styluslaw13_small.calls k _ _ l0 7 0 true _ ?side1 ?side2 HA1.out).mono ?_); (case side1 => repeat (first | exact (Kd.C_below HR.out BK.out) | (with_reducible refine Kd.C_drewN ?_ _) | (with_reducible refine Kd.C_drew ?_))); (case side2 => exact HC.out); rintro e w2_ ⟨rfl, ⟨nd, rfl⟩⟩)))
          go_meet
          exact ⟨rfl, ⟨pw_below_drewN BK.out _⟩⟩
        have g3b : decide (a1_1 < 0) = false := decide_eq_false g3
        obtain ⟨ad, ea, hx0, hx1⟩ := at_T41 HR.out a1_0 (by omega) (by omega)
        cases ea
        replace hx0 := (BK.out.cell (World.block_lt_of_cell? w _ hx0)).trans hx0
        have q0 : (0 ≤ a1_0) = True := eq_true (by omega)
        have q1 : (a1_0 < (l0.length : Int)) = True := eq_true (by omega)
        have q2 : (a1_0.toNat < l0.length) = True := eq_true (by omega)
        clear hx1
        by_cases g4 : ((rd_T41 l0 a1_0).f0.size : Int) ≤ a1_1
        · have g4b : decide (((rd_T41 l0 a1_0).f0.size : Int) ≤ a1_1) = true := decide_eq_true g4
          clear G g1 g2 g3 g4
          go_wp2_with ((go_at_call 16; (with_reducible refine (styluslaw13_small.calls k _ _ l0 7 0 true _ ?side1 ?side2 HA1.out).mono ?_); (case side1 => repeat (first | exact (Kd.C_below HR.out BK.out) | (with_reducible refine Kd.C_drewN ?_ _) | (with_reducible refine Kd.C_drew ?_))); (case side2 => exact HC.out); rintro e w2_ ⟨rfl, ⟨nd, rfl⟩⟩))
          repeat (go_quiet ((go_at_call 16; (with_reducible refine (styluslaw13_small.calls k _ _ l0 7 0 true _ ?side1 ?side2 HA1.out).mono ?_); (case side1 => repeat (first | exact (Kd.C_below HR.out BK.out) | (with_reducible refine Kd.C_drewN ?_ _) | (with_reducible refine Kd.C_drew ?_))); (case side2 => exact HC.out); rintro e w2_ ⟨rfl, ⟨nd, rfl⟩⟩)); try go_wp2_with ((go_at_call 16; (with_reducible refine (styluslaw13_small.calls k _ _ l0 7 0 true _ ?side1 ?side2 HA1.out).mono ?_); (case side1 => repeat (first | exact (Kd.C_below HR.out BK.out) | (with_reducible refine Kd.C_drewN ?_ _) | (with_reducible refine Kd.C_drew ?_))); (case side2 => exact HC.out); rintro e w2_ ⟨rfl, ⟨nd, rfl⟩⟩)))
          go_meet
          exact ⟨rfl, ⟨pw_below_drewN BK.out _⟩⟩
        have g4b : decide (((rd_T41 l0 a1_0).f0.size : Int) ≤ a1_1) = false := decide_eq_false g4
        have g5b : (a1_2 == 0) = true := by
          rcases G with z | z | z | z | z | z
          · cases z
          · exact absurd z g1
          · exact absurd z g2
          · exact absurd z g3
          · exact absurd z g4
          · exact beq_iff_eq.mpr z
        clear G g1 g2 g3 g4
        go_wp2_with ((go_at_call 16; (with_reducible refine (styluslaw13_small.calls k _ _ l0 7 0 true _ ?side1 ?side2 HA1.out).mono ?_); (case side1 => repeat (first | exact (Kd.C_below HR.out BK.out) | (with_reducible refine Kd.C_drewN ?_ _) | (with_reducible refine Kd.C_drew ?_))); (case side2 => exact HC.out); rintro e w2_ ⟨rfl, ⟨nd, rfl⟩⟩))
        repeat (go_quiet ((go_at_call 16; (with_reducible refine (styluslaw13_small.calls k _ _ l0 7 0 true _ ?side1 ?side2 HA1.out).mono ?_); (case side1 => repeat (first | exact (Kd.C_below HR.out BK.out) | (with_reducible refine Kd.C_drewN ?_ _) | (with_reducible refine Kd.C_drew ?_))); (case side2 => exact HC.out); rintro e w2_ ⟨rfl, ⟨nd, rfl⟩⟩)); try go_wp2_with ((go_at_call 16; (with_reducible refine (styluslaw13_small.calls k _ _ l0 7 0 true _ ?side1 ?side2 HA1.out).mono ?_); (case side1 => repeat (first | exact (Kd.C_below HR.out BK.out) | (with_reducible refine Kd.C_drewN ?_ _) | (with_reducible refine Kd.C_drew ?_))); (case side2 => exact HC.out); rintro e w2_ ⟨rfl, ⟨nd, rfl⟩⟩)))
        go_meet
        exact ⟨rfl, ⟨pw_below_drewN BK.out _⟩⟩
    clear BK
    obtain ⟨rfl, BK⟩ := hcut
    go_wp2_with (go_at_call 8; (with_reducible refine (styluslaw13_lives.calls k r _ HL.out).mono ?_); rintro e w2 ⟨rfl, hb1⟩)
    go_ret
    exact ⟨rfl, below_step BK.out hb1⟩
  rw [if_neg G] at h
  have HH := Aside0.mk h
  clear h
  unfold styluslaw13_ScanStops.skip at G
  have t1 : t = true := by
    cases t with
    | true => rfl
    | false => exact absurd (.inl rfl) G
  subst t1
  have g1 : ¬ a1_0 < 0 := fun z => G (.inr (.inl z))
  have g2 : ¬ (l0.length : Int) ≤ a1_0 := fun z => G (.inr (.inr (.inl z)))
  have g3 : ¬ a1_1 < 0 := fun z => G (.inr (.inr (.inr (.inl z))))
  have g4 : ¬ ((rd_T41 l0 a1_0).f0.size : Int) ≤ a1_1 := fun z => G (.inr (.inr (.inr (.inr (.inl z)))))
  have g5 : ¬ a1_2 = 0 := fun z => G (.inr (.inr (.inr (.inr (.inr z)))))
  have G1 := Aside0.mk g1
  have G3 := Aside0.mk g3
  clear G
  go_upto_region 2 with fail
  go_cut [50] (fun v50 wx => v50 = .bool false ∧ Aside0 (Below w.heap.size w wx))
  case first =>
    have g1b : decide (a1_0 < 0) = false := decide_eq_false g1
    have g2b : decide ((l0.length : Int) ≤ a1_0) = false := decide_eq_false g2
    have g3b : decide (a1_1 < 0) = false := decide_eq_false g3
    have g4b : decide (((rd_T41 l0 a1_0).f0.size : Int) ≤ a1_1) = false := decide_eq_false g4
    have g5b : (a1_2 == 0) = false := beq_eq_false_iff_ne.mpr g5
    obtain ⟨ad, ea, hx0, hx1⟩ := at_T41 HR.out a1_0 (by omega) (by omega)
    cases ea
    replace hx0 := (BK.out.cell (World.block_lt_of_cell? w _ hx0)).trans hx0
    have q0 : (0 ≤ a1_0) = True := eq_true (by omega)
    have q1 : (a1_0 < (l0.length : Int)) = True := eq_true (by omega)
    have q2 : (a1_0.toNat < l0.length) = True := eq_true (by omega)
    clear hx1 g1 g2 g3 g4 g5
    go_wp2_with ((go_at_call 16; (with_reducible refine (styluslaw13_small.calls k _ _ l0 7 0 true _ ?side1 ?side2 HA1.out).mono ?_); (case side1 => repeat (first | exact (Kd.C_below HR.out BK.out) | (with_reducible refine Kd.C_drewN ?_ _) | (with_reducible refine Kd.C_drew ?_))); (case side2 => exact HC.out); rintro e w2_ ⟨rfl, ⟨nd, rfl⟩⟩))
    repeat (go_quiet ((go_at_call 16; (with_reducible refine (styluslaw13_small.calls k _ _ l0 7 0 true _ ?side1 ?side2 HA1.out).mono ?_); (case side1 => repeat (first | exact (Kd.C_below HR.out BK.out) | (with_reducible refine Kd.C_drewN ?_ _) | (with_reducible refine Kd.C_drew ?_))); (case side2 => exact HC.out); rintro e w2_ ⟨rfl, ⟨nd, rfl⟩⟩)); try go_wp2_with ((go_at_call 16; (with_reducible refine (styluslaw13_small.calls k _ _ l0 7 0 true _ ?side1 ?side2 HA1.out).mono ?_); (case side1 => repeat (first | exact (Kd.C_below HR.out BK.out) | (with_reducible refine Kd.C_drewN ?_ _) | (with_reducible refine Kd.C_drew ?_))); (case side2 => exact HC.out); rintro e w2_ ⟨rfl, ⟨nd, rfl⟩⟩)))
    go_meet
    exact ⟨rfl, ⟨pw_below_drewN BK.out _⟩⟩
  clear BK g1 g2 g3 g4 g5
  obtain ⟨rfl, BK⟩ := hcut
  have h := HH.out
  clear HH
  replace h := Option.bind_eq_some_iff.mp h
  obtain ⟨⟨s, pl⟩, A2, h⟩ := h
  simp only at h
  by_cases z1 : s.size ≤ 100000 ∧ a1_0 < (pl.length : Int) ∧ 0 ≤ rd pl a1_0 ∧ a1_1 ≤ 100000 ∧ rd pl a1_0 + 16 + a1_1 < (s.size : Int)
  rotate_left
  · rw [if_neg z1] at h
    cases h
  rw [if_pos z1] at h
  unfold styluslaw13_ScanStops.told at h
  replace h := Option.bind_eq_some_iff.mp h
  obtain ⟨⟨fl, n⟩, A3, h⟩ := h
  simp only at h
  by_cases z2 : (fl.length : Int) = a1_0 ∧ n = rd pl a1_0
  rotate_left
  · rw [if_neg z2] at h
    cases h
  rw [if_pos z2] at h
  replace h := Option.bind_eq_some_iff.mp h
  obtain ⟨e9, A4, h⟩ := h
  by_cases z3 : e9 = 19
  rotate_left
  · rw [if_neg z3] at h
    cases h
  rw [if_pos z3] at h
  subst z3
  have HA2 := Aside0.mk A2
  have HL := Aside0.mk h
  unfold styluslaw13_ScanStops.alter at A3 A4
  have HA3 := Aside0.mk A3
  have HA4 := Aside0.mk A4
  have Z1 := Aside0.mk z1
  have Z2 := Aside0.mk z2
  clear h A2 A3 A4 z1 z2
  go_upto_region 5 with (go_at_call 17; (with_reducible refine (styluslaw13_laid.calls k _ _ l0 7 0 s pl _ (Kd.C_below HR.out BK.out) HC.out HA2.out).mono ?_); rintro e w3 ⟨vp, rfl, hR3, hb3⟩; obtain ⟨Ap, cp, rfl, hlp, hC3⟩ := Kd.R_reads hR3; have HP := Aside0.mk hC3; have HLP := Aside0.mk hlp; have KB := Aside0.mk (below_step BK.out hb3); clear hR3 hC3 hlp hb3)
  clear BK HR HC HA1 HA2
  have kb := fun W => print_bytes (P := Try.prog) 9 45 5 Try.underlying9 Try.underlying45 Try.underlying5 s W
  have j0 : 0 ≤ a1_0 := by have := G1.out; omega
  have j1 : 0 ≤ rd pl a1_0 + 16 + a1_1 := by have := G3.out; have := Z1.out.2.2.1; omega
  have j2 : (rd pl a1_0 + 16 + a1_1).toNat < s.size := by have := Z1.out.2.2.2.2; omega
  have w1 : wrap64 (rd pl a1_0 + 16) = rd pl a1_0 + 16 := by have := Z1.out; have := G3.out; unfold wrap64; omega
  have w2 : wrap64 (rd pl a1_0 + 16 + a1_1) = rd pl a1_0 + 16 + a1_1 := by have := Z1.out; unfold wrap64; omega
  have J0 := Aside0.mk j0
  have J1 := Aside0.mk j1
  have J2 := Aside0.mk j2
  have W1 := Aside0.mk w1
  have W2 := Aside0.mk w2
  clear j0 j1 j2 w1 w2
  go_cut [10] (fun v10 wx => ∃ b c, v10 = .slice (some ⟨b, 0, none⟩) s.size c ∧ wx.cell? ⟨b, (rd pl a1_0 + 16 + a1_1).toNat, none⟩ = some (.int .u8 (bt s (rd pl a1_0 + 16 + a1_1))) ∧ wx.frozen? ⟨b, (rd pl a1_0 + 16 + a1_1).toNat, none⟩ = false ∧ Aside0 (w3.heap.size ≤ b ∧ ReadsInt wx .u8 (some ⟨b, 0, none⟩) s.size (bytesOf s) ∧ Below w3.heap.size w3 wx))
  case first =>
    go_wp2_with fail
    go_meet
    exact ⟨_, _, rfl, styluslaw13_ScanStops.at_ _ _ _ _ J1.out (by have := Z1.out.2.2.2.2; omega) (by have := Z1.out.1; omega), styluslaw13_ScanStops.free _ _ _ _ J2.out, ⟨Nat.le_refl _, bytes_reads _ _ s (by have := Z1.out.1; omega), bytes_below (Below.refl _ _) (Nat.le_refl _) _ _⟩⟩
  clear kb
  obtain ⟨bq, cq, rfl, hcl, hfr, HB⟩ := hcut
  obtain ⟨ap, ea, hx⟩ := Kd.at_int HP.out a1_0 J0.out (by have := Z1.out.2.1; omega)
  subst ea
  have hx := (HB.out.2.2.cell (World.block_lt_of_cell? w3 _ hx)).trans hx
  have q0 : (0 ≤ a1_0) = True := eq_true J0.out
  have q1 : (a1_0 < (pl.length : Int)) = True := eq_true Z1.out.2.1
  have q2 : (a1_0.toNat < pl.length) = True := eq_true (by have := Z1.out.2.1; have := J0.out; omega)
  have w1 := W1.out
  have w2 := W2.out
  go_upto_region 6 with fail
  go_cut [11] (fun v11 wx => v11 = .int .i64 (rd pl a1_0 + 16 + a1_1) ∧ wx.cell? ⟨bq, (rd pl a1_0 + 16 + a1_1).toNat, none⟩ = some (.int .u8 (bt s (rd pl a1_0 + 16 + a1_1))) ∧ wx.frozen? ⟨bq, (rd pl a1_0 + 16 + a1_1).toNat, none⟩ = false ∧ Aside0 (ReadsInt wx .u8 (some ⟨bq, 0, none⟩) s.size (bytesOf s) ∧ Below w3.heap.size w3 wx))
  case first =>
    go_wp2_with fail
    go_meet
    exact ⟨by rw [W2.out], hcl, hfr, ⟨HB.out.2.1, HB.out.2.2⟩⟩
  have HB0 := Aside0.mk HB.out.1
  clear hx q1 q2 w1 w2 hcl hfr HB
  obtain ⟨rfl, hcl, hfr, HB⟩ := hcut
  go_upto_region 7 with fail
  have j1 := J1.out
  have j2 := J2.out
  have j3 : rd pl a1_0 + 16 + a1_1 < (s.size : Int) := by have := Z1.out.2.2.2.2; omega
  have z2 := Z2.out
  go_cut [] (fun wx => Aside0 (ReadsInt wx .u8 (some ⟨bq, 0, none⟩) s.size ((bytesOf s).set (rd pl a1_0 + 16 + a1_1).toNat (Go.bits .xor .u8 (bt s (rd pl a1_0 + 16 + a1_1)) a1_2)) ∧ Below w3.heap.size w3 wx))
  case first =>
    go_wp2_with fail
    go_meet
    exact ⟨⟨styluslaw13_ScanStops.put HB.out.1 _ j2 _, HB.out.2.setCell HB0.out _⟩⟩
  clear hcl hfr HB j1 j2 j3 z2
  have RB := Aside0.mk hcut.out.1
  have HB := Aside0.mk hcut.out.2
  clear hcut
  have hst := string_of_reads (P := Try.prog) (c := cq) Try.underlying45 Try.underlying5 Try.underlying9 RB.out
  go_upto_region 9 with (go_at_call 9; (with_reducible refine (scan_Run.calls k _ 7 0 fl n _ HA3.out).mono ?_); rintro e w4 ⟨vf, rfl, hR4, hb4⟩; obtain ⟨Af, cf, rfl, hlf, hC4⟩ := Kd.R_reads hR4; have HB4 := Aside0.mk hb4; clear hR4 hC4 hlf hb4)
  clear hst
  obtain ⟨ap2, ea, hx⟩ := Kd.at_int HP.out a1_0 J0.out (by have := Z1.out.2.1; omega)
  obtain rfl := Option.some.inj ea
  have B34 := below_step HB.out HB4.out
  have hx := (B34.cell (World.block_lt_of_cell? w3 _ hx)).trans hx
  have RB2 := RB.out.below HB4.out
  have hst := string_of_reads (P := Try.prog) (c := cq) Try.underlying45 Try.underlying5 Try.underlying9 RB2
  have q1 : (a1_0 < (pl.length : Int)) = True := eq_true Z1.out.2.1
  have q2 : (a1_0.toNat < pl.length) = True := eq_true (by have := Z1.out.2.1; have := J0.out; omega)
  have e1 : ((fl.length : Int) == a1_0) = true := beq_iff_eq.mpr Z2.out.1
  have e2 : (n == rd pl a1_0) = true := beq_iff_eq.mpr Z2.out.2
  have KB4 := Aside0.mk (below_step KB.out B34)
  clear B34 RB2 ea
  go_wp2_with (first
    | (go_at_call 12; (with_reducible refine (scan_Why.calls k _ 7 0 19 _ HA4.out).mono ?_); rintro e w5 ⟨rfl, hb5⟩)
    | (go_at_call 8; (with_reducible refine (styluslaw13_lives.calls k r _ HL.out).mono ?_); rintro e w6 ⟨rfl, hb6⟩))
  go_ret
  exact ⟨rfl, below_step (below_step KB4.out hb5) hb6⟩


/-- THE ONE PURE STATEMENT of styluslaw13_ScanStops. -/
def styluslaw13_ScanStops.Pure : Prop := ∀ (x0 : List (S41)) (x1 : S44), (x0.length ≤ 9223372036854775807 ∧ ∀ y_x0 ∈ x0, B41 y_x0) → B44 x1 → ∃ k, styluslaw13_ScanStops.f k x0 x1.f0 x1.f1 x1.f2 = some true
/-! ### scan_Fill: function 18 -/
def scan_Fill.l0 : Nat → List Int → Int → Int → Option (ByteArray)
  | 0, _, _, _ => none
  | k + 1, x3, x5, x6 => if x6 < x5 then (if x3.length < 140737488355328 then (scan_Fill.l0 k (x3 ++ [255]) x5 (wrap64 (x6 + 1))) else (none)) else (some (strOfNums x3))
def scan_Fill.f (k : Nat) (a0 : Int) : Option (ByteArray) := scan_Fill.l0 k ([] : List Int) (mn a0 32) 0
theorem scan_Fill.mono_l : ∀ k, (∀ y0 y1 y2, LeO (scan_Fill.l0 k y0 y1 y2) (scan_Fill.l0 (k + 1) y0 y1 y2))
  | 0 => fun _ _ _ r h => by simp [scan_Fill.l0] at h
  | k + 1 => by
    have ih0 := scan_Fill.mono_l k
    · intro y0 y1 y2
      unfold scan_Fill.l0
      repeat' first
      | (with_reducible exact ih0 _ _ _)
      | (with_reducible exact LeO.refl _)
      | (with_reducible exact LeO.none _)
      | (with_reducible refine LeO.ite ?_ ?_)
      | (with_reducible refine LeO.bind ?_ (fun _ => ?_))
      | exact ih0 _ _ _
      | exact LeO.none _
      | refine LeO.ite ?_ ?_
      | refine LeO.bind ?_ (fun _ => ?_)
theorem scan_Fill.mono : ∀ a0 k, LeO (scan_Fill.f k a0) (scan_Fill.f (k + 1) a0) := by
  intro a0 k
  have ih0 := scan_Fill.mono_l k
  unfold scan_Fill.f
  repeat' first
      | (with_reducible exact ih0 _ _ _)
      | (with_reducible exact LeO.refl _)
      | (with_reducible exact LeO.none _)
      | (with_reducible refine LeO.ite ?_ ?_)
      | (with_reducible refine LeO.bind ?_ (fun _ => ?_))
      | exact ih0 _ _ _
      | exact LeO.none _
      | refine LeO.ite ?_ ?_
      | refine LeO.bind ?_ (fun _ => ?_)
set_option maxHeartbeats 8000000 in
set_option maxRecDepth 100000 in
theorem scan_Fill.calls (k : Nat) (a0 : Int) (r : ByteArray) (w : World) (h : scan_Fill.f k a0 = some r) :
    Calls Try.prog 18 #[.int .i64 a0] w fun e w' => e = .returned (.string r) ∧ Below w.heap.size w w' := by
  have HB := Aside0.mk (Below.refl w.heap.size w)
  have H : (scan_Fill.l0 k ([] : List Int) (mn a0 32) 0) = some r := h
  clear h
  obtain ⟨ji2, hji2⟩ : ∃ j_ : Int, (mn a0 32) = j_ := ⟨_, rfl⟩
  replace H : (scan_Fill.l0 k ([] : List Int) ji2 0) = some r := by first | (rw [hji2] at H; exact H) | (simp only [hji2] at H ⊢; exact H)
  (try (have hji2h : ji2 ≤ 32 := by (rw [← hji2]; unfold mn; (repeat' split) <;> omega)))
  (try (have hji2g : ji2 ≤ 64 := by omega))
  have hji2_ : (if 32 < a0 then 32 else a0) = ji2 := hji2
  have H' := Aside0.mk H
  clear H
  go_enter Try.func18, Try.ntmps18
  go_wp2
  go_loopg [3, 6] k (fun kq v3 v6 w' => ∃ (x3_1 : List Int) (x6_1 : Int), v6 = .int .i64 x6_1 ∧ Aside0 (scan_Fill.l0 kq x3_1 ji2 x6_1 = some r) ∧ Aside0 (kq ≤ k) ∧ Aside0 (Kd.R (Kd.int .u8) 5 w' w.heap.size (fun _ => True) v3 x3_1) ∧ Aside0 (Below w.heap.size w w'))
  case atStart => exact ⟨(([] : List Int)), (0), (by first | rfl | (simp; done) | (simp [*]; done)), H', ⟨Nat.le_refl _⟩, ⟨by first | exact Kd.R_nil _ _ _ _ _ | exact Kd.N_nil _ _ _ _ _ | exact Kd.V_nil _ _ _ _ _ | exact Kd.Q_nil _ _ _ _ _ | exact Kd.S_nil _ _ _ _ _⟩, ⟨by repeat (first | (with_reducible first | exact HB.out | apply below_alloc | apply pw_below_drewN | apply below_drew1) | exact HB.out)⟩⟩
  case round =>
    clear H'
    try clear c1
    try clear p2
    obtain ⟨x3_1, x6_1, rfl, HA, HK1, HO_3, HB⟩ := hrel
    cases gk with
    | zero => exact absurd HA.out (by simp [scan_Fill.l0])
    | succ k1 =>
      have H := HA.out
      clear HA
      simp only [scan_Fill.l0] at H
      by_cases c3 : x6_1 < ji2
      · rw [if_pos c3] at H
        have c3b0 : decide (x6_1 < ji2) = true := decide_eq_true c3
        clear c3
        by_cases c4 : x3_1.length < 140737488355328
        · rw [if_pos c4] at H
          have LMc4 := Aside0.mk c4
          clear c4
          obtain ⟨y246, hy246⟩ : ∃ y_ : List Int, y_ = (x3_1 ++ [255]) := ⟨_, rfl⟩
          replace H : (scan_Fill.l0 k1 y246 ji2 (wrap64 (x6_1 + 1))) = some r := by first | (rw [hy246]; with_reducible exact H) | (have H2_ := (Option.bind_some _ _).symm.trans H; rw [hy246]; with_reducible exact H2_) | (have H2_ := (Option.bind_some _ _).symm.trans H; with_reducible exact H2_) | with_reducible exact H | (rw [hy246]; exact H) | exact H
          have Ny246 := Aside0.mk hy246
          clear hy246
          have H' := Aside0.mk H
          clear H
          go_wp2_with (first | ((with_reducible refine gate_builtin (b := .append) (xs := #[.tmp 8, .tmp 9]) rfl ?_); at_builtin; refine Kd.R_append (Kd.int .u8) (w0 := w) w.heap.size rfl (.tmp 8) (.tmp 9) 45 5 (.int .u8 0) 1 rfl Try.underlying45 info5 rfl (by decide) (by omega) u3 x3_1 255 [.int .u8 255] (fun _ => True) (fun _ => False) rfl rfl ?aP (fun _ hk => hk.elim) ?aF ?aO ?aB ?aS ?aL ?_; (case aP => exact rfl); (case aB => exact (by repeat (first | (with_reducible first | exact HB.out | apply below_alloc | apply pw_below_drewN | apply below_drew1) | exact HB.out))); (case aF => exact (fun _ _ => trivial)); (case aO => exact (by (with_reducible repeat (first | apply Kd.R_alloc | apply Kd.R_drewN | apply Kd.R_drew)); exact HO_3.out)); (case aS => exact (below_size (by repeat (first | (with_reducible first | exact HB.out | apply below_alloc | apply pw_below_drewN | apply below_drew1) | exact HB.out)))); (case aL => have := LMc4.out; omega); intro v247 w5 ho hb hg hat; rw [← Ny246.out] at ho; have n0_ := Aside0.mk (hb); have n1_ := Aside0.mk (ho); clear HB; clear HO_3; have HB := n0_; have HO248 := n1_; clear n0_ n1_; clear ho hb hg hat))
          go_roundg k1
          case measure => have := HK1.out; omega
          case rel => exact ⟨(y246), (wrap64 (x6_1 + 1)), (by first | rfl | (simp; done) | (simp [*]; done)), H', ⟨by have := HK1.out; omega⟩, ⟨by (with_reducible repeat (first | apply Kd.R_alloc | apply Kd.R_drewN | apply Kd.R_drew)); exact HO248.out⟩, ⟨by repeat (first | (with_reducible first | exact HB.out | apply below_alloc | apply pw_below_drewN | apply below_drew1) | exact HB.out)⟩⟩
        · rw [if_neg c4] at H
          exact absurd H (by simp)
      · rw [if_neg c3] at H
        have c3b0 : decide (x6_1 < ji2) = false := decide_eq_false c3
        clear c3
        obtain rfl := Option.some.inj H
        have hcv6 := own_string (P := Try.prog) Try.underlying45 Try.underlying5 Try.underlying9 (Kd.own_of_R HO_3.out)
        go_wp2
        go_ret
        exact ⟨by first | rfl | (simp [errW_none, errW_some] <;> rfl) | (simp only [← hji2]; first | rfl | (simp [errW_none, errW_some] <;> rfl)) | (simp [*, errW_none, errW_some] <;> rfl), by repeat (first | (with_reducible first | exact HB.out | apply below_alloc | apply pw_below_drewN | apply below_drew1) | exact HB.out)⟩

/-! ### styluslaw13_ScanFills: function 6 -/
def styluslaw13_ScanFills.f (k : Nat) (a0 : Int) : Option (Bool) := (scan_Fill.f k a0).bind fun t249 => ((stylusref13_Fill.f k a0).bind fun t250 => (if t249.toList = t250.toList then ((scan_Fill.f k a0).bind fun t249 => ((scan_Blank.f k t249).bind fun t251 => (if t251 = true then ((styluslaw13_lives.f k).bind fun t252 => (some t252)) else (some false)))) else (some false)))
theorem styluslaw13_ScanFills.mono : ∀ a0 k, LeO (styluslaw13_ScanFills.f k a0) (styluslaw13_ScanFills.f (k + 1) a0) := by
  intro a0 k
  unfold styluslaw13_ScanFills.f
  repeat' first
      | (with_reducible exact scan_Blank.mono _ _)
      | (with_reducible exact scan_Fill.mono _ _)
      | (with_reducible exact styluslaw13_lives.mono _)
      | (with_reducible exact stylusref13_Fill.mono _ _)
      | (with_reducible exact LeO.refl _)
      | (with_reducible exact LeO.none _)
      | (with_reducible refine LeO.ite ?_ ?_)
      | (with_reducible refine LeO.bind ?_ (fun _ => ?_))
      | exact scan_Blank.mono _ _
      | exact scan_Fill.mono _ _
      | exact styluslaw13_lives.mono _
      | exact stylusref13_Fill.mono _ _
      | exact LeO.none _
      | refine LeO.ite ?_ ?_
      | refine LeO.bind ?_ (fun _ => ?_)
set_option maxHeartbeats 8000000 in
set_option maxRecDepth 100000 in
theorem styluslaw13_ScanFills.calls (k : Nat) (a0 : Int) (r : Bool) (w : World) (h : styluslaw13_ScanFills.f k a0 = some r) :
    Calls Try.prog 6 #[.int .i64 a0] w fun e w' => e = .returned (.bool r) ∧ Below w.heap.size w w' := by
  have HB := Aside0.mk (Below.refl w.heap.size w)
  have H : ((scan_Fill.f k a0).bind fun t249 => ((stylusref13_Fill.f k a0).bind fun t250 => (if t249.toList = t250.toList then ((scan_Fill.f k a0).bind fun t249 => ((scan_Blank.f k t249).bind fun t251 => (if t251 = true then ((styluslaw13_lives.f k).bind fun t252 => (some t252)) else (some false)))) else (some false)))) = some r := h
  clear h
  replace H := Option.bind_eq_some_iff.mp H
  obtain ⟨t249, A20, H⟩ := H
  replace H : ((stylusref13_Fill.f k a0).bind fun t250 => (if t249.toList = t250.toList then ((scan_Fill.f k a0).bind fun t249 => ((scan_Blank.f k t249).bind fun t251 => (if t251 = true then ((styluslaw13_lives.f k).bind fun t252 => (some t252)) else (some false)))) else (some false))) = some r := H
  have A2 := Aside0.mk A20
  clear A20
  replace H := Option.bind_eq_some_iff.mp H
  obtain ⟨t250, A30, H⟩ := H
  replace H : (if t249.toList = t250.toList then ((scan_Fill.f k a0).bind fun t249 => ((scan_Blank.f k t249).bind fun t251 => (if t251 = true then ((styluslaw13_lives.f k).bind fun t252 => (some t252)) else (some false)))) else (some false)) = some r := H
  have A3 := Aside0.mk A30
  clear A30
  by_cases c4 : t249.toList = t250.toList
  · rw [if_pos c4] at H
    have c4b0 : (t249.toList == t250.toList) = true := beq_iff_eq.mpr c4
    have c4b1 : (t249.toList != t250.toList) = false := bne_eq_false_iff_eq.mpr c4
    clear c4
    replace H := Option.bind_eq_some_iff.mp H
    obtain ⟨t249b_, A50, H⟩ := H
    obtain rfl : t249 = t249b_ := Option.some.inj (A2.out.symm.trans A50)
    replace H : ((scan_Blank.f k t249).bind fun t251 => (if t251 = true then ((styluslaw13_lives.f k).bind fun t252 => (some t252)) else (some false))) = some r := H
    have A5 := Aside0.mk A50
    clear A50
    replace H := Option.bind_eq_some_iff.mp H
    obtain ⟨t251, A60, H⟩ := H
    replace H : (if t251 = true then ((styluslaw13_lives.f k).bind fun t252 => (some t252)) else (some false)) = some r := H
    have A6 := Aside0.mk A60
    clear A60
    by_cases c7 : t251 = true
    · subst c7
      have H1 : ((styluslaw13_lives.f k).bind fun t252 => (some t252)) = some r := by rw [if_pos rfl] at H; exact H
      clear H
      have H := H1
      clear H1
      replace H := Option.bind_eq_some_iff.mp H
      obtain ⟨t252, A80, H⟩ := H
      replace H : (some t252) = some r := H
      have A8 := Aside0.mk A80
      clear A80
      obtain rfl := Option.some.inj H
      go_enter Try.func6, Try.ntmps6
      go_wp2_with (first | ((with_reducible refine gate_callee (f := 18) rfl ?_); refine goesL_ (some 4) rfl rfl Try.func18 (by kernel_rfl) rfl #[.int .i64 a0] rfl (by (try simp only [List.map_toArray, List.map_cons, List.map_nil]); first | done | rfl | (simp only [List.length_drop, List.length_take]; rfl)) ?_; (with_reducible refine (scan_Fill.calls k a0 t249 _ A2.out).mono ?_); rintro e w9 ⟨rfl, hb⟩; refine ⟨_, rfl, ?_⟩; have n0_ := Aside0.mk (below_step (by repeat (first | (with_reducible first | exact HB.out | apply below_alloc | apply pw_below_drewN | apply below_drew1) | exact HB.out)) hb); clear HB; have HB := n0_; clear n0_; (try clear hb); (try clear hb2); (try clear hk); (try clear hi)) | ((with_reducible refine gate_callee (f := 19) rfl ?_); refine goesL_ (some 6) rfl rfl Try.func19 (by kernel_rfl) rfl #[.int .i64 a0] rfl (by (try simp only [List.map_toArray, List.map_cons, List.map_nil]); first | done | rfl | (simp only [List.length_drop, List.length_take]; rfl)) ?_; (with_reducible refine (stylusref13_Fill.calls k a0 t250 _ A3.out).mono ?_); rintro e w' ⟨rfl, ⟨nd, rfl⟩⟩; refine ⟨_, rfl, ?_⟩) | (go_at_call 18; (with_reducible refine (scan_Fill.calls k a0 t249 _ A5.out).mono ?_); rintro e w10 ⟨rfl, hb⟩; have n0_ := Aside0.mk (below_step (by repeat (first | (with_reducible first | exact HB.out | apply below_alloc | apply pw_below_drewN | apply below_drew1) | exact HB.out)) hb); clear HB; have HB := n0_; clear n0_; (try clear hb); (try clear hb2); (try clear hk); (try clear hi)) | (go_at_call 14; (with_reducible refine (scan_Blank.calls k t249 true _ A6.out).mono ?_); rintro e w' ⟨rfl, ⟨nd, rfl⟩⟩) | (go_at_call 8; (with_reducible refine (styluslaw13_lives.calls k  t252 _ A8.out).mono ?_); rintro e w11 ⟨rfl, hb⟩; have n0_ := Aside0.mk (below_step (by repeat (first | (with_reducible first | exact HB.out | apply below_alloc | apply pw_below_drewN | apply below_drew1) | exact HB.out)) hb); clear HB; have HB := n0_; clear n0_; (try clear hb); (try clear hb2); (try clear hk); (try clear hi)))
      go_ret
      exact ⟨by first | rfl | (simp [errW_none, errW_some] <;> rfl) | (simp [*, errW_none, errW_some] <;> rfl), by repeat (first | (with_reducible first | exact HB.out | apply below_alloc | apply pw_below_drewN | apply below_drew1) | exact HB.out)⟩
    · replace c7 := Bool.eq_false_iff.mpr c7
      subst c7
      have H1 : (some false) = some r := by rw [if_neg (show ¬ (false = true) by decide)] at H; exact H
      clear H
      have H := H1
      clear H1
      obtain rfl := Option.some.inj H
      go_enter Try.func6, Try.ntmps6
      go_wp2_with (first | ((with_reducible refine gate_callee (f := 18) rfl ?_); refine goesL_ (some 4) rfl rfl Try.func18 (by kernel_rfl) rfl #[.int .i64 a0] rfl (by (try simp only [List.map_toArray, List.map_cons, List.map_nil]); first | done | rfl | (simp only [List.length_drop, List.length_take]; rfl)) ?_; (with_reducible refine (scan_Fill.calls k a0 t249 _ A2.out).mono ?_); rintro e w12 ⟨rfl, hb⟩; refine ⟨_, rfl, ?_⟩; have n0_ := Aside0.mk (below_step (by repeat (first | (with_reducible first | exact HB.out | apply below_alloc | apply pw_below_drewN | apply below_drew1) | exact HB.out)) hb); clear HB; have HB := n0_; clear n0_; (try clear hb); (try clear hb2); (try clear hk); (try clear hi)) | ((with_reducible refine gate_callee (f := 19) rfl ?_); refine goesL_ (some 6) rfl rfl Try.func19 (by kernel_rfl) rfl #[.int .i64 a0] rfl (by (try simp only [List.map_toArray, List.map_cons, List.map_nil]); first | done | rfl | (simp only [List.length_drop, List.length_take]; rfl)) ?_; (with_reducible refine (stylusref13_Fill.calls k a0 t250 _ A3.out).mono ?_); rintro e w' ⟨rfl, ⟨nd, rfl⟩⟩; refine ⟨_, rfl, ?_⟩) | (go_at_call 18; (with_reducible refine (scan_Fill.calls k a0 t249 _ A5.out).mono ?_); rintro e w13 ⟨rfl, hb⟩; have n0_ := Aside0.mk (below_step (by repeat (first | (with_reducible first | exact HB.out | apply below_alloc | apply pw_below_drewN | apply below_drew1) | exact HB.out)) hb); clear HB; have HB := n0_; clear n0_; (try clear hb); (try clear hb2); (try clear hk); (try clear hi)) | (go_at_call 14; (with_reducible refine (scan_Blank.calls k t249 false _ A6.out).mono ?_); rintro e w' ⟨rfl, ⟨nd, rfl⟩⟩))
      go_ret
      exact ⟨by first | rfl | (simp [errW_none, errW_some] <;> rfl) | (simp [*, errW_none, errW_some] <;> rfl), by repeat (first | (with_reducible first | exact HB.out | apply below_alloc | apply pw_below_drewN | apply below_drew1) | exact HB.out)⟩
  · rw [if_neg c4] at H
    have c4b0 : (t249.toList == t250.toList) = false := beq_eq_false_iff_ne.mpr c4
    have c4b1 : (t249.toList != t250.toList) = true := bne_iff_ne.mpr c4
    obtain rfl := Option.some.inj H
    go_enter Try.func6, Try.ntmps6
    go_wp2_with (first | ((with_reducible refine gate_callee (f := 18) rfl ?_); refine goesL_ (some 4) rfl rfl Try.func18 (by kernel_rfl) rfl #[.int .i64 a0] rfl (by (try simp only [List.map_toArray, List.map_cons, List.map_nil]); first | done | rfl | (simp only [List.length_drop, List.length_take]; rfl)) ?_; (with_reducible refine (scan_Fill.calls k a0 t249 _ A2.out).mono ?_); rintro e w14 ⟨rfl, hb⟩; refine ⟨_, rfl, ?_⟩; have n0_ := Aside0.mk (below_step (by repeat (first | (with_reducible first | exact HB.out | apply below_alloc | apply pw_below_drewN | apply below_drew1) | exact HB.out)) hb); clear HB; have HB := n0_; clear n0_; (try clear hb); (try clear hb2); (try clear hk); (try clear hi)) | ((with_reducible refine gate_callee (f := 19) rfl ?_); refine goesL_ (some 6) rfl rfl Try.func19 (by kernel_rfl) rfl #[.int .i64 a0] rfl (by (try simp only [List.map_toArray, List.map_cons, List.map_nil]); first | done | rfl | (simp only [List.length_drop, List.length_take]; rfl)) ?_; (with_reducible refine (stylusref13_Fill.calls k a0 t250 _ A3.out).mono ?_); rintro e w' ⟨rfl, ⟨nd, rfl⟩⟩; refine ⟨_, rfl, ?_⟩))
    go_ret
    exact ⟨by first | rfl | (simp [errW_none, errW_some] <;> rfl) | (simp [*, errW_none, errW_some] <;> rfl), by repeat (first | (with_reducible first | exact HB.out | apply below_alloc | apply pw_below_drewN | apply below_drew1) | exact HB.out)⟩

/-- THE ONE PURE STATEMENT of styluslaw13_ScanFills: yours. -/
def styluslaw13_ScanFills.Pure : Prop := ∀ (a0 : Int), (Lit.int .i64 a0).wf = true → ∃ k, styluslaw13_ScanFills.f k a0 = some true
theorem styluslaw13_ScanFills.walk (P : styluslaw13_ScanFills.Pure) (a0 : Int) (w : World) (w0 : (Lit.int .i64 a0).wf = true) :
    Calls Try.prog 6 #[.int .i64 a0] w fun e w' => e = .returned (.bool true) ∧ Below w.heap.size w w' := by
  obtain ⟨k, h⟩ := P a0 w0
  refine (styluslaw13_ScanFills.calls k a0 true w h).mono ?_
  rintro e w' ⟨rfl, hd⟩
  exact ⟨rfl, hd⟩

/-! ### scan_Any: function 20 -/
def scan_Any.l0 : Nat → ByteArray → List (S39) → Option ((List (S39)))
  | 0, _, _ => none
  | k + 1, x0, x3 => if x0.toList = ([] : List UInt8) then (some x3) else ((frame_One.f k x0).bind fun bt253 => (if bt253.2.2.2.2 = 0 then (if x3.length < 4398046511104 then (if 0 ≤ bt253.2.2.2.1 then (if bt253.2.2.2.1 ≤ (x0.size : Int) then (scan_Any.l0 k (x0.extract (bt253.2.2.2.1 : Int).toNat x0.size) (x3 ++ [(⟨bt253.1, bt253.2.1, bt253.2.2.1⟩ : S39)])) else (none)) else (none)) else (none)) else (if 1 ≤ (x0.size : Int) then (scan_Any.l0 k (x0.extract 1 x0.size) x3) else (none))))
def scan_Any.f (k : Nat) (a0 : ByteArray) : Option ((List (S39))) := scan_Any.l0 k a0 ([] : List (S39))
theorem scan_Any.mono_l : ∀ k, (∀ y0 y1, LeO (scan_Any.l0 k y0 y1) (scan_Any.l0 (k + 1) y0 y1))
  | 0 => fun _ _ r h => by simp [scan_Any.l0] at h
  | k + 1 => by
    have ih0 := scan_Any.mono_l k
    · intro y0 y1
      unfold scan_Any.l0
      repeat' first
      | (with_reducible exact ih0 _ _)
      | (with_reducible exact frame_One.mono _ _)
      | (with_reducible exact LeO.refl _)
      | (with_reducible exact LeO.none _)
      | (with_reducible refine LeO.ite ?_ ?_)
      | (with_reducible refine LeO.bind ?_ (fun _ => ?_))
      | exact ih0 _ _
      | exact frame_One.mono _ _
      | exact LeO.none _
      | refine LeO.ite ?_ ?_
      | refine LeO.bind ?_ (fun _ => ?_)
theorem scan_Any.mono : ∀ a0 k, LeO (scan_Any.f k a0) (scan_Any.f (k + 1) a0) := by
  intro a0 k
  have ih0 := scan_Any.mono_l k
  unfold scan_Any.f
  repeat' first
      | (with_reducible exact ih0 _ _)
      | (with_reducible exact frame_One.mono _ _)
      | (with_reducible exact LeO.refl _)
      | (with_reducible exact LeO.none _)
      | (with_reducible refine LeO.ite ?_ ?_)
      | (with_reducible refine LeO.bind ?_ (fun _ => ?_))
      | exact ih0 _ _
      | exact frame_One.mono _ _
      | exact LeO.none _
      | refine LeO.ite ?_ ?_
      | refine LeO.bind ?_ (fun _ => ?_)
set_option maxHeartbeats 8000000 in
set_option maxRecDepth 100000 in
theorem scan_Any.calls (k : Nat) (a0 : ByteArray) (r : List (S39)) (w : World) (h : scan_Any.f k a0 = some r) :
    Calls Try.prog 20 #[.string a0] w fun e w' => ∃ v0_ : Value, e = .returned (v0_) ∧ Kd.R k39 39 w' w.heap.size (fun _ => True) v0_ r ∧ Below w.heap.size w w' := by
  have hu39 := Try.underlying39
  have HB := Aside0.mk (Below.refl w.heap.size w)
  have H : (scan_Any.l0 k a0 ([] : List (S39))) = some r := h
  clear h
  have H' := Aside0.mk H
  clear H
  go_enter Try.func20, Try.ntmps20
  go_wp2
  go_loopg [0, 3] k (fun kq v0 v3 w' => ∃ (x0_1 : ByteArray) (x3_1 : List (S39)), v0 = .string x0_1 ∧ Aside0 (scan_Any.l0 kq x0_1 x3_1 = some r) ∧ Aside0 (kq ≤ k) ∧ Aside0 (Kd.R k39 39 w' w.heap.size (fun _ => True) v3 x3_1) ∧ Aside0 (Below w.heap.size w w'))
  case atStart => exact ⟨(a0), (([] : List (S39))), (by first | rfl | (simp; done) | (simp [*]; done)), H', ⟨Nat.le_refl _⟩, ⟨by first | exact Kd.R_nil _ _ _ _ _ | exact Kd.N_nil _ _ _ _ _ | exact Kd.V_nil _ _ _ _ _ | exact Kd.Q_nil _ _ _ _ _ | exact Kd.S_nil _ _ _ _ _⟩, ⟨by repeat (first | (with_reducible first | exact HB.out | apply below_alloc | apply pw_below_drewN | apply below_drew1) | exact HB.out)⟩⟩
  case round =>
    clear H'
    obtain ⟨x0_1, x3_1, rfl, HA, HK1, HO_3, HB⟩ := hrel
    cases gk with
    | zero => exact absurd HA.out (by simp [scan_Any.l0])
    | succ k1 =>
      have H := HA.out
      clear HA
      simp only [scan_Any.l0] at H
      by_cases c2 : x0_1.toList = ([] : List UInt8)
      · rw [if_pos c2] at H
        have c2b0 : (x0_1.toList == ([] : List UInt8)) = true := beq_iff_eq.mpr c2
        have c2b1 : (x0_1.toList != ([] : List UInt8)) = false := bne_eq_false_iff_eq.mpr c2
        clear c2
        obtain rfl := Option.some.inj H
        go_wp2
        go_ret
        exact ⟨_, by first | rfl | (simp [errW_none, errW_some] <;> rfl) | (simp [*, errW_none, errW_some] <;> rfl), by (with_reducible repeat (first | apply Kd.R_alloc | apply Kd.R_drewN | apply Kd.R_drew)); exact HO_3.out, by repeat (first | (with_reducible first | exact HB.out | apply below_alloc | apply pw_below_drewN | apply below_drew1) | exact HB.out)⟩
      · rw [if_neg c2] at H
        have c2b0 : (x0_1.toList == ([] : List UInt8)) = false := beq_eq_false_iff_ne.mpr c2
        have c2b1 : (x0_1.toList != ([] : List UInt8)) = true := bne_iff_ne.mpr c2
        replace H := Option.bind_eq_some_iff.mp H
        obtain ⟨⟨t253, t254, t255, t256, t257⟩, A30, H⟩ := H
        replace H : (if t257 = 0 then (if x3_1.length < 4398046511104 then (if 0 ≤ t256 then (if t256 ≤ (x0_1.size : Int) then (scan_Any.l0 k1 (x0_1.extract (t256 : Int).toNat x0_1.size) (x3_1 ++ [(⟨t253, t254, t255⟩ : S39)])) else (none)) else (none)) else (none)) else (if 1 ≤ (x0_1.size : Int) then (scan_Any.l0 k1 (x0_1.extract 1 x0_1.size) x3_1) else (none))) = some r := H
        have A3 := Aside0.mk A30
        clear A30
        by_cases c4 : t257 = 0
        · rw [if_pos c4] at H
          have c4b0 : (t257 == 0) = true := beq_iff_eq.mpr c4
          have c4b1 : (t257 != 0) = false := bne_eq_false_iff_eq.mpr c4
          clear c4
          by_cases c5 : x3_1.length < 4398046511104
          · rw [if_pos c5] at H
            have LMc5 := Aside0.mk c5
            clear c5
            obtain ⟨y259, hy259⟩ : ∃ y_ : List (S39), y_ = (x3_1 ++ [(⟨t253, t254, t255⟩ : S39)]) := ⟨_, rfl⟩
            replace H : (if 0 ≤ t256 then (if t256 ≤ (x0_1.size : Int) then (scan_Any.l0 k1 (x0_1.extract (t256 : Int).toNat x0_1.size) y259) else (none)) else (none)) = some r := by first | (rw [hy259]; with_reducible exact H) | (have H2_ := (Option.bind_some _ _).symm.trans H; rw [hy259]; with_reducible exact H2_) | (have H2_ := (Option.bind_some _ _).symm.trans H; with_reducible exact H2_) | with_reducible exact H | (rw [hy259]; exact H) | exact H
            have Ny259 := Aside0.mk hy259
            clear hy259
            by_cases c6 : 0 ≤ t256
            · rw [if_pos c6] at H
              have c6b0 := eq_true c6
              have c6b1 : decide (0 ≤ t256) = true := decide_eq_true c6
              clear c6
              by_cases c7 : t256 ≤ (x0_1.size : Int)
              · rw [if_pos c7] at H
                have c7b0 := eq_true c7
                have c7b1 : decide (t256 ≤ (x0_1.size : Int)) = true := decide_eq_true c7
                clear c7
                have H' := Aside0.mk H
                clear H
                go_wp2_with (first | ((with_reducible refine gate_callee (f := 25) rfl ?_); refine goesL_ (some 11) rfl rfl Try.func25 (by kernel_rfl) rfl #[.string x0_1] rfl (by (try simp only [List.map_toArray, List.map_cons, List.map_nil]); first | done | rfl | (simp only [List.length_drop, List.length_take]; rfl)) ?_; (with_reducible refine (frame_One.calls k1 x0_1 t253 t254 t255 t256 t257 _ A3.out).mono ?_); rintro e w8 ⟨rfl, hb⟩; refine ⟨_, rfl, ?_⟩; have n0_ := Aside0.mk (Kd.R_below (by (with_reducible repeat (first | apply Kd.R_alloc | apply Kd.R_drewN | apply Kd.R_drew)); exact HO_3.out) hb); have n1_ := Aside0.mk (below_step (by repeat (first | (with_reducible first | exact HB.out | apply below_alloc | apply pw_below_drewN | apply below_drew1) | exact HB.out)) hb); clear HO_3; clear HB; have HO_3 := n0_; have HB := n1_; clear n0_ n1_; (try clear hb); (try clear hb2); (try clear hk); (try clear hi)) | ((with_reducible refine gate_dst (N := 4) rfl ?_); refine box_event ?hg (N := 4) ?hd (cs := #[.int .i64 0, .int .i64 0, .string (⟨#[]⟩ : ByteArray)]) (t := 39) ?hr ?_; (case hd => rfl); (case hg => rfl); (case hr => first | (go_simp; done) | (go_simp; rfl)); intro gb258 hg w9 hbox hb; have n0_ := Aside0.mk (Kd.R_below (Kd.R_elderB (by (with_reducible repeat (first | apply Kd.R_alloc | apply Kd.R_drewN | apply Kd.R_drew)); exact HO_3.out) gb258 (Nat.le_of_eq hg.symm)) hb); have n1_ := Aside0.mk (below_step (by repeat (first | (with_reducible first | exact HB.out | apply below_alloc | apply pw_below_drewN | apply below_drew1) | exact HB.out)) hb); have n2_ := Aside0.mk (hbox); have n3_ := Aside0.mk ((by rw [hg]; exact (below_size (by repeat (first | (with_reducible first | exact HB.out | apply below_alloc | apply pw_below_drewN | apply below_drew1) | exact HB.out))) : w.heap.size ≤ gb258)); have n4_ := Aside0.mk ((by rw [hg]; exact (below_size (by repeat (first | (with_reducible first | exact HB.out | apply below_alloc | apply pw_below_drewN | apply below_drew1) | exact HB.out))) : w.heap.size ≤ gb258)); clear HO_3; clear HB; have HO_3 := n0_; have HB := n1_; have BK258 := n2_; have GW258 := n3_; have GE258 := n4_; clear n0_ n1_ n2_ n3_ n4_; clear hb hbox hg; have hcz10_0 : w9.cell? ⟨gb258, 0, none⟩ = some (.int .i64 0) := (blk_cell BK258.out 0).trans rfl; have hcz10_1 : w9.cell? ⟨gb258, 1, none⟩ = some (.int .i64 0) := (blk_cell BK258.out 1).trans rfl; have hcz10_2 : w9.cell? ⟨gb258, 2, none⟩ = some (.string (⟨#[]⟩ : ByteArray)) := (blk_cell BK258.out 2).trans rfl; have hfz10_0 := blk_frozen BK258.out 0; have hfz10_1 := blk_frozen BK258.out 1; have hfz10_2 := blk_frozen BK258.out 2) | ((with_reducible refine gate_builtin (b := .append) (xs := #[.tmp 19, .tmp 21]) rfl ?_); at_builtin; refine Kd.R_append k39 (w0 := w) w.heap.size rfl (.tmp 19) (.tmp 21) 23 39 (.agg #[(.int .i64 0), (.int .i64 0), (.string ⟨#[]⟩)]) 32 rfl Try.underlying23 info39 rfl (by decide) (by omega) u3 x3_1 (⟨t253, t254, t255⟩ : S39) [.int .i64 t253, .int .i64 t254, .string t255] (fun k_ => k_ ≠ gb258) (fun _ => False) rfl (by first | (go_simp; done) | (go_simp; rfl)) ?aP (fun _ hk => hk.elim) ?aF ?aO ?aB ?aS ?aL ?_; (case aP => exact k39_mkM _ _ _ (⟨t253, t254, t255⟩ : S39)); (case aB => exact (by repeat (first | (with_reducible first | exact HB.out | apply below_alloc | apply pw_below_drewN | apply below_drew1 | refine below_set ?_ GE258.out) | exact HB.out))); (case aF => exact (fun k_ hk => Kd.freshB (g := gb258) (o := .cells #[.int .i64 t253, .int .i64 t254, .string t255] 39 (0, 0)) (by (with_reducible repeat (first | refine blk_drewN ?_ _ | refine blk_drew ?_ | refine blk_alloc ?_ _)); refine blk_put (cs := #[.int .i64 t253, .int .i64 t254, .string (⟨#[]⟩ : ByteArray)]) ?_ 2 _ rfl; (with_reducible repeat (first | refine blk_drewN ?_ _ | refine blk_drew ?_ | refine blk_alloc ?_ _)); refine blk_put (cs := #[.int .i64 t253, .int .i64 0, .string (⟨#[]⟩ : ByteArray)]) ?_ 1 _ rfl; (with_reducible repeat (first | refine blk_drewN ?_ _ | refine blk_drew ?_ | refine blk_alloc ?_ _)); refine blk_put (cs := #[.int .i64 0, .int .i64 0, .string (⟨#[]⟩ : ByteArray)]) ?_ 0 _ rfl; (with_reducible repeat (first | refine blk_drewN ?_ _ | refine blk_drew ?_ | refine blk_alloc ?_ _)); exact BK258.out) k_ hk)); (case aO => exact (by (with_reducible repeat (first | apply Kd.R_alloc | apply Kd.R_drewN | apply Kd.R_drew)); exact Kd.R_mono (Kd.R_far (p := ⟨gb258, 2, none⟩) (Kd.R_far (p := ⟨gb258, 1, none⟩) (Kd.R_far (p := ⟨gb258, 0, none⟩) (Kd.R_mono HO_3.out (fun k_ hk => (⟨hk, hk.2⟩ : _ ∧ k_ ≠ gb258))) (fun _ hk => hk.2) (.int .i64 t253)) (fun _ hk => hk.2) (.int .i64 t254)) (fun _ hk => hk.2) (.string t255)) (fun _ hk => hk.1.2))); (case aS => exact (below_size (by repeat (first | (with_reducible first | exact HB.out | apply below_alloc | apply pw_below_drewN | apply below_drew1 | refine below_set ?_ GE258.out) | exact HB.out)))); (case aL => have := LMc5.out; omega); intro v260 w11 ho hb hg hat; rw [← Ny259.out] at ho; have n0_ := Aside0.mk (blk_grown (g := gb258) (o := .cells #[.int .i64 t253, .int .i64 t254, .string t255] 39 (0, 0)) (by (with_reducible repeat (first | refine blk_drewN ?_ _ | refine blk_drew ?_ | refine blk_alloc ?_ _)); refine blk_put (cs := #[.int .i64 t253, .int .i64 t254, .string (⟨#[]⟩ : ByteArray)]) ?_ 2 _ rfl; (with_reducible repeat (first | refine blk_drewN ?_ _ | refine blk_drew ?_ | refine blk_alloc ?_ _)); refine blk_put (cs := #[.int .i64 t253, .int .i64 0, .string (⟨#[]⟩ : ByteArray)]) ?_ 1 _ rfl; (with_reducible repeat (first | refine blk_drewN ?_ _ | refine blk_drew ?_ | refine blk_alloc ?_ _)); refine blk_put (cs := #[.int .i64 0, .int .i64 0, .string (⟨#[]⟩ : ByteArray)]) ?_ 0 _ rfl; (with_reducible repeat (first | refine blk_drewN ?_ _ | refine blk_drew ?_ | refine blk_alloc ?_ _)); exact BK258.out) hg (Kd.R_away HO_3.out (fun _ hk => hk.2))); have n1_ := Aside0.mk (hb); have n2_ := Aside0.mk (ho); clear BK258; clear HB; clear HO_3; have BK258 := n0_; have HB := n1_; have HO261 := n2_; clear n0_ n1_ n2_; clear ho hb hg hat))
                go_roundg k1
                case measure => have := HK1.out; omega
                case rel => exact ⟨(x0_1.extract (t256 : Int).toNat x0_1.size), (y259), (by first | rfl | (simp; done) | (simp [*]; done)), H', ⟨by have := HK1.out; omega⟩, ⟨by (with_reducible repeat (first | apply Kd.R_alloc | apply Kd.R_drewN | apply Kd.R_drew)); exact Kd.R_mono HO261.out (fun _ hk => trivial)⟩, ⟨by repeat (first | (with_reducible first | exact HB.out | apply below_alloc | apply pw_below_drewN | apply below_drew1 | refine below_set ?_ GE258.out) | exact HB.out)⟩⟩
              · rw [if_neg c7] at H
                exact absurd H (by simp)
            · rw [if_neg c6] at H
              exact absurd H (by simp)
          · rw [if_neg c5] at H
            exact absurd H (by simp)
        · rw [if_neg c4] at H
          have c4b0 : (t257 == 0) = false := beq_eq_false_iff_ne.mpr c4
          have c4b1 : (t257 != 0) = true := bne_iff_ne.mpr c4
          by_cases c12 : 1 ≤ (x0_1.size : Int)
          · rw [if_pos c12] at H
            have c12b0 := eq_true c12
            have c12b1 : decide (1 ≤ (x0_1.size : Int)) = true := decide_eq_true c12
            clear c12
            have H' := Aside0.mk H
            clear H
            go_wp2_with (first | ((with_reducible refine gate_callee (f := 25) rfl ?_); refine goesL_ (some 11) rfl rfl Try.func25 (by kernel_rfl) rfl #[.string x0_1] rfl (by (try simp only [List.map_toArray, List.map_cons, List.map_nil]); first | done | rfl | (simp only [List.length_drop, List.length_take]; rfl)) ?_; (with_reducible refine (frame_One.calls k1 x0_1 t253 t254 t255 t256 t257 _ A3.out).mono ?_); rintro e w13 ⟨rfl, hb⟩; refine ⟨_, rfl, ?_⟩; have n0_ := Aside0.mk (Kd.R_below (by (with_reducible repeat (first | apply Kd.R_alloc | apply Kd.R_drewN | apply Kd.R_drew)); exact HO_3.out) hb); have n1_ := Aside0.mk (below_step (by repeat (first | (with_reducible first | exact HB.out | apply below_alloc | apply pw_below_drewN | apply below_drew1) | exact HB.out)) hb); clear HO_3; clear HB; have HO_3 := n0_; have HB := n1_; clear n0_ n1_; (try clear hb); (try clear hb2); (try clear hk); (try clear hi)) | ((with_reducible refine gate_dst (N := 4) rfl ?_); refine box_event ?hg (N := 4) ?hd (cs := #[.int .i64 0, .int .i64 0, .string (⟨#[]⟩ : ByteArray)]) (t := 39) ?hr ?_; (case hd => rfl); (case hg => rfl); (case hr => first | (go_simp; done) | (go_simp; rfl)); intro gb258 hg w14 hbox hb; have n0_ := Aside0.mk (Kd.R_below (Kd.R_elderB (by (with_reducible repeat (first | apply Kd.R_alloc | apply Kd.R_drewN | apply Kd.R_drew)); exact HO_3.out) gb258 (Nat.le_of_eq hg.symm)) hb); have n1_ := Aside0.mk (below_step (by repeat (first | (with_reducible first | exact HB.out | apply below_alloc | apply pw_below_drewN | apply below_drew1) | exact HB.out)) hb); have n2_ := Aside0.mk (hbox); have n3_ := Aside0.mk ((by rw [hg]; exact (below_size (by repeat (first | (with_reducible first | exact HB.out | apply below_alloc | apply pw_below_drewN | apply below_drew1) | exact HB.out))) : w.heap.size ≤ gb258)); have n4_ := Aside0.mk ((by rw [hg]; exact (below_size (by repeat (first | (with_reducible first | exact HB.out | apply below_alloc | apply pw_below_drewN | apply below_drew1) | exact HB.out))) : w.heap.size ≤ gb258)); clear HO_3; clear HB; have HO_3 := n0_; have HB := n1_; have BK258 := n2_; have GW258 := n3_; have GE258 := n4_; clear n0_ n1_ n2_ n3_ n4_; clear hb hbox hg; have hcz15_0 : w14.cell? ⟨gb258, 0, none⟩ = some (.int .i64 0) := (blk_cell BK258.out 0).trans rfl; have hcz15_1 : w14.cell? ⟨gb258, 1, none⟩ = some (.int .i64 0) := (blk_cell BK258.out 1).trans rfl; have hcz15_2 : w14.cell? ⟨gb258, 2, none⟩ = some (.string (⟨#[]⟩ : ByteArray)) := (blk_cell BK258.out 2).trans rfl; have hfz15_0 := blk_frozen BK258.out 0; have hfz15_1 := blk_frozen BK258.out 1; have hfz15_2 := blk_frozen BK258.out 2))
            go_roundg k1
            case measure => have := HK1.out; omega
            case rel => exact ⟨(x0_1.extract 1 x0_1.size), (x3_1), (by first | rfl | (simp; done) | (simp [*]; done)), H', ⟨by have := HK1.out; omega⟩, ⟨by (with_reducible repeat (first | apply Kd.R_alloc | apply Kd.R_drewN | apply Kd.R_drew)); exact Kd.R_mono (Kd.R_far (p := ⟨gb258, 2, none⟩) (Kd.R_far (p := ⟨gb258, 1, none⟩) (Kd.R_far (p := ⟨gb258, 0, none⟩) (Kd.R_mono HO_3.out (fun k_ hk => (⟨hk, hk.2⟩ : _ ∧ k_ ≠ gb258))) (fun _ hk => hk.2) (.int .i64 t253)) (fun _ hk => hk.2) (.int .i64 t254)) (fun _ hk => hk.2) (.string t255)) (fun _ hk => trivial)⟩, ⟨by repeat (first | (with_reducible first | exact HB.out | apply below_alloc | apply pw_below_drewN | apply below_drew1 | refine below_set ?_ GE258.out) | exact HB.out)⟩⟩
          · rw [if_neg c12] at H
            exact absurd H (by simp)

/-! ### stylusref13_Any: function 21 -/
def stylusref13_Any.l0 : Nat → ByteArray → List (S39) → Int → Option ((List (S39)))
  | 0, _, _, _ => none
  | k + 1, x0, x3, x4 => if x4 < (x0.size : Int) then (if 0 ≤ x4 then (if x4 ≤ (x0.size : Int) then ((stylusref12_One.f k (x0.extract (x4 : Int).toNat x0.size)).bind fun bt262 => (if bt262.2.2.2.2 = 0 then (if x3.length < 4398046511104 then (stylusref13_Any.l0 k x0 (x3 ++ [(⟨bt262.1, bt262.2.1, bt262.2.2.1⟩ : S39)]) (wrap64 (x4 + bt262.2.2.2.1))) else (none)) else (stylusref13_Any.l0 k x0 x3 (wrap64 (x4 + 1))))) else (none)) else (none)) else (some x3)
def stylusref13_Any.f (k : Nat) (a0 : ByteArray) : Option ((List (S39))) := stylusref13_Any.l0 k a0 ([] : List (S39)) 0
theorem stylusref13_Any.mono_l : ∀ k, (∀ y0 y1 y2, LeO (stylusref13_Any.l0 k y0 y1 y2) (stylusref13_Any.l0 (k + 1) y0 y1 y2))
  | 0 => fun _ _ _ r h => by simp [stylusref13_Any.l0] at h
  | k + 1 => by
    have ih0 := stylusref13_Any.mono_l k
    · intro y0 y1 y2
      unfold stylusref13_Any.l0
      repeat' first
      | (with_reducible exact ih0 _ _ _)
      | (with_reducible exact stylusref12_One.mono _ _)
      | (with_reducible exact LeO.refl _)
      | (with_reducible exact LeO.none _)
      | (with_reducible refine LeO.ite ?_ ?_)
      | (with_reducible refine LeO.bind ?_ (fun _ => ?_))
      | exact ih0 _ _ _
      | exact stylusref12_One.mono _ _
      | exact LeO.none _
      | refine LeO.ite ?_ ?_
      | refine LeO.bind ?_ (fun _ => ?_)
theorem stylusref13_Any.mono : ∀ a0 k, LeO (stylusref13_Any.f k a0) (stylusref13_Any.f (k + 1) a0) := by
  intro a0 k
  have ih0 := stylusref13_Any.mono_l k
  unfold stylusref13_Any.f
  repeat' first
      | (with_reducible exact ih0 _ _ _)
      | (with_reducible exact stylusref12_One.mono _ _)
      | (with_reducible exact LeO.refl _)
      | (with_reducible exact LeO.none _)
      | (with_reducible refine LeO.ite ?_ ?_)
      | (with_reducible refine LeO.bind ?_ (fun _ => ?_))
      | exact ih0 _ _ _
      | exact stylusref12_One.mono _ _
      | exact LeO.none _
      | refine LeO.ite ?_ ?_
      | refine LeO.bind ?_ (fun _ => ?_)
set_option maxHeartbeats 8000000 in
set_option maxRecDepth 100000 in
theorem stylusref13_Any.calls (k : Nat) (a0 : ByteArray) (r : List (S39)) (w : World) (h : stylusref13_Any.f k a0 = some r) :
    Calls Try.prog 21 #[.string a0] w fun e w' => ∃ v0_ : Value, e = .returned (v0_) ∧ Kd.R k39 39 w' w.heap.size (fun _ => True) v0_ r ∧ Below w.heap.size w w' := by
  have hu39 := Try.underlying39
  have HB := Aside0.mk (Below.refl w.heap.size w)
  have H : (stylusref13_Any.l0 k a0 ([] : List (S39)) 0) = some r := h
  clear h
  have H' := Aside0.mk H
  clear H
  go_enter Try.func21, Try.ntmps21
  go_wp2
  go_loopg [3, 4] k (fun kq v3 v4 w' => ∃ (x3_1 : List (S39)) (x4_1 : Int), v4 = .int .i64 x4_1 ∧ Aside0 (stylusref13_Any.l0 kq a0 x3_1 x4_1 = some r) ∧ Aside0 (kq ≤ k) ∧ Aside0 (Kd.R k39 39 w' w.heap.size (fun _ => True) v3 x3_1) ∧ Aside0 (Below w.heap.size w w'))
  case atStart => exact ⟨(([] : List (S39))), (0), (by first | rfl | (simp; done) | (simp [*]; done)), H', ⟨Nat.le_refl _⟩, ⟨by first | exact Kd.R_nil _ _ _ _ _ | exact Kd.N_nil _ _ _ _ _ | exact Kd.V_nil _ _ _ _ _ | exact Kd.Q_nil _ _ _ _ _ | exact Kd.S_nil _ _ _ _ _⟩, ⟨by repeat (first | (with_reducible first | exact HB.out | apply below_alloc | apply pw_below_drewN | apply below_drew1) | exact HB.out)⟩⟩
  case round =>
    clear H'
    obtain ⟨x3_1, x4_1, rfl, HA, HK1, HO_3, HB⟩ := hrel
    cases gk with
    | zero => exact absurd HA.out (by simp [stylusref13_Any.l0])
    | succ k1 =>
      have H := HA.out
      clear HA
      simp only [stylusref13_Any.l0] at H
      by_cases c2 : x4_1 < (a0.size : Int)
      · rw [if_pos c2] at H
        have c2b0 : decide (x4_1 < (a0.size : Int)) = true := decide_eq_true c2
        clear c2
        by_cases c3 : 0 ≤ x4_1
        · rw [if_pos c3] at H
          have c3b0 := eq_true c3
          have c3b1 : decide (0 ≤ x4_1) = true := decide_eq_true c3
          clear c3
          by_cases c4 : x4_1 ≤ (a0.size : Int)
          · rw [if_pos c4] at H
            have c4b0 := eq_true c4
            have c4b1 : decide (x4_1 ≤ (a0.size : Int)) = true := decide_eq_true c4
            clear c4
            replace H := Option.bind_eq_some_iff.mp H
            obtain ⟨⟨t262, t263, t264, t265, t266⟩, A50, H⟩ := H
            replace H : (if t266 = 0 then (if x3_1.length < 4398046511104 then (stylusref13_Any.l0 k1 a0 (x3_1 ++ [(⟨t262, t263, t264⟩ : S39)]) (wrap64 (x4_1 + t265))) else (none)) else (stylusref13_Any.l0 k1 a0 x3_1 (wrap64 (x4_1 + 1)))) = some r := H
            have A5 := Aside0.mk A50
            clear A50
            by_cases c6 : t266 = 0
            · rw [if_pos c6] at H
              have c6b0 : (t266 == 0) = true := beq_iff_eq.mpr c6
              have c6b1 : (t266 != 0) = false := bne_eq_false_iff_eq.mpr c6
              clear c6
              by_cases c7 : x3_1.length < 4398046511104
              · rw [if_pos c7] at H
                have LMc7 := Aside0.mk c7
                clear c7
                obtain ⟨y268, hy268⟩ : ∃ y_ : List (S39), y_ = (x3_1 ++ [(⟨t262, t263, t264⟩ : S39)]) := ⟨_, rfl⟩
                replace H : (stylusref13_Any.l0 k1 a0 y268 (wrap64 (x4_1 + t265))) = some r := by first | (rw [hy268]; with_reducible exact H) | (have H2_ := (Option.bind_some _ _).symm.trans H; rw [hy268]; with_reducible exact H2_) | (have H2_ := (Option.bind_some _ _).symm.trans H; with_reducible exact H2_) | with_reducible exact H | (rw [hy268]; exact H) | exact H
                have Ny268 := Aside0.mk hy268
                clear hy268
                have H' := Aside0.mk H
                clear H
                go_wp2_with (first | ((with_reducible refine gate_callee (f := 24) rfl ?_); refine goesL_ (some 16) rfl rfl Try.func24 (by kernel_rfl) rfl #[.string (a0.extract (x4_1 : Int).toNat a0.size)] rfl (by (try simp only [List.map_toArray, List.map_cons, List.map_nil]); first | done | rfl | (simp only [List.length_drop, List.length_take]; rfl)) ?_; (with_reducible refine (stylusref12_One.calls k1 (a0.extract (x4_1 : Int).toNat a0.size) t262 t263 t264 t265 t266 _ A5.out).mono ?_); rintro e w8 ⟨rfl, hb⟩; refine ⟨_, rfl, ?_⟩; have n0_ := Aside0.mk (Kd.R_below (by (with_reducible repeat (first | apply Kd.R_alloc | apply Kd.R_drewN | apply Kd.R_drew)); exact HO_3.out) hb); have n1_ := Aside0.mk (below_step (by repeat (first | (with_reducible first | exact HB.out | apply below_alloc | apply pw_below_drewN | apply below_drew1) | exact HB.out)) hb); clear HO_3; clear HB; have HO_3 := n0_; have HB := n1_; clear n0_ n1_; (try clear hb); (try clear hb2); (try clear hk); (try clear hi)) | ((with_reducible refine gate_dst (N := 5) rfl ?_); refine box_event ?hg (N := 5) ?hd (cs := #[.int .i64 0, .int .i64 0, .string (⟨#[]⟩ : ByteArray)]) (t := 39) ?hr ?_; (case hd => rfl); (case hg => rfl); (case hr => first | (go_simp; done) | (go_simp; rfl)); intro gb267 hg w9 hbox hb; have n0_ := Aside0.mk (Kd.R_below (Kd.R_elderB (by (with_reducible repeat (first | apply Kd.R_alloc | apply Kd.R_drewN | apply Kd.R_drew)); exact HO_3.out) gb267 (Nat.le_of_eq hg.symm)) hb); have n1_ := Aside0.mk (below_step (by repeat (first | (with_reducible first | exact HB.out | apply below_alloc | apply pw_below_drewN | apply below_drew1) | exact HB.out)) hb); have n2_ := Aside0.mk (hbox); have n3_ := Aside0.mk ((by rw [hg]; exact (below_size (by repeat (first | (with_reducible first | exact HB.out | apply below_alloc | apply pw_below_drewN | apply below_drew1) | exact HB.out))) : w.heap.size ≤ gb267)); have n4_ := Aside0.mk ((by rw [hg]; exact (below_size (by repeat (first | (with_reducible first | exact HB.out | apply below_alloc | apply pw_below_drewN | apply below_drew1) | exact HB.out))) : w.heap.size ≤ gb267)); clear HO_3; clear HB; have HO_3 := n0_; have HB := n1_; have BK267 := n2_; have GW267 := n3_; have GE267 := n4_; clear n0_ n1_ n2_ n3_ n4_; clear hb hbox hg; have hcz10_0 : w9.cell? ⟨gb267, 0, none⟩ = some (.int .i64 0) := (blk_cell BK267.out 0).trans rfl; have hcz10_1 : w9.cell? ⟨gb267, 1, none⟩ = some (.int .i64 0) := (blk_cell BK267.out 1).trans rfl; have hcz10_2 : w9.cell? ⟨gb267, 2, none⟩ = some (.string (⟨#[]⟩ : ByteArray)) := (blk_cell BK267.out 2).trans rfl; have hfz10_0 := blk_frozen BK267.out 0; have hfz10_1 := blk_frozen BK267.out 1; have hfz10_2 := blk_frozen BK267.out 2) | ((with_reducible refine gate_builtin (b := .append) (xs := #[.tmp 22, .tmp 24]) rfl ?_); at_builtin; refine Kd.R_append k39 (w0 := w) w.heap.size rfl (.tmp 22) (.tmp 24) 23 39 (.agg #[(.int .i64 0), (.int .i64 0), (.string ⟨#[]⟩)]) 32 rfl Try.underlying23 info39 rfl (by decide) (by omega) u3 x3_1 (⟨t262, t263, t264⟩ : S39) [.int .i64 t262, .int .i64 t263, .string t264] (fun k_ => k_ ≠ gb267) (fun _ => False) rfl (by first | (go_simp; done) | (go_simp; rfl)) ?aP (fun _ hk => hk.elim) ?aF ?aO ?aB ?aS ?aL ?_; (case aP => exact k39_mkM _ _ _ (⟨t262, t263, t264⟩ : S39)); (case aB => exact (by repeat (first | (with_reducible first | exact HB.out | apply below_alloc | apply pw_below_drewN | apply below_drew1 | refine below_set ?_ GE267.out) | exact HB.out))); (case aF => exact (fun k_ hk => Kd.freshB (g := gb267) (o := .cells #[.int .i64 t262, .int .i64 t263, .string t264] 39 (0, 0)) (by (with_reducible repeat (first | refine blk_drewN ?_ _ | refine blk_drew ?_ | refine blk_alloc ?_ _)); refine blk_put (cs := #[.int .i64 t262, .int .i64 t263, .string (⟨#[]⟩ : ByteArray)]) ?_ 2 _ rfl; (with_reducible repeat (first | refine blk_drewN ?_ _ | refine blk_drew ?_ | refine blk_alloc ?_ _)); refine blk_put (cs := #[.int .i64 t262, .int .i64 0, .string (⟨#[]⟩ : ByteArray)]) ?_ 1 _ rfl; (with_reducible repeat (first | refine blk_drewN ?_ _ | refine blk_drew ?_ | refine blk_alloc ?_ _)); refine blk_put (cs := #[.int .i64 0, .int .i64 0, .string (⟨#[]⟩ : ByteArray)]) ?_ 0 _ rfl; (with_reducible repeat (first | refine blk_drewN ?_ _ | refine blk_drew ?_ | refine blk_alloc ?_ _)); exact BK267.out) k_ hk)); (case aO => exact (by (with_reducible repeat (first | apply Kd.R_alloc | apply Kd.R_drewN | apply Kd.R_drew)); exact Kd.R_mono (Kd.R_far (p := ⟨gb267, 2, none⟩) (Kd.R_far (p := ⟨gb267, 1, none⟩) (Kd.R_far (p := ⟨gb267, 0, none⟩) (Kd.R_mono HO_3.out (fun k_ hk => (⟨hk, hk.2⟩ : _ ∧ k_ ≠ gb267))) (fun _ hk => hk.2) (.int .i64 t262)) (fun _ hk => hk.2) (.int .i64 t263)) (fun _ hk => hk.2) (.string t264)) (fun _ hk => hk.1.2))); (case aS => exact (below_size (by repeat (first | (with_reducible first | exact HB.out | apply below_alloc | apply pw_below_drewN | apply below_drew1 | refine below_set ?_ GE267.out) | exact HB.out)))); (case aL => have := LMc7.out; omega); intro v269 w11 ho hb hg hat; rw [← Ny268.out] at ho; have n0_ := Aside0.mk (blk_grown (g := gb267) (o := .cells #[.int .i64 t262, .int .i64 t263, .string t264] 39 (0, 0)) (by (with_reducible repeat (first | refine blk_drewN ?_ _ | refine blk_drew ?_ | refine blk_alloc ?_ _)); refine blk_put (cs := #[.int .i64 t262, .int .i64 t263, .string (⟨#[]⟩ : ByteArray)]) ?_ 2 _ rfl; (with_reducible repeat (first | refine blk_drewN ?_ _ | refine blk_drew ?_ | refine blk_alloc ?_ _)); refine blk_put (cs := #[.int .i64 t262, .int .i64 0, .string (⟨#[]⟩ : ByteArray)]) ?_ 1 _ rfl; (with_reducible repeat (first | refine blk_drewN ?_ _ | refine blk_drew ?_ | refine blk_alloc ?_ _)); refine blk_put (cs := #[.int .i64 0, .int .i64 0, .string (⟨#[]⟩ : ByteArray)]) ?_ 0 _ rfl; (with_reducible repeat (first | refine blk_drewN ?_ _ | refine blk_drew ?_ | refine blk_alloc ?_ _)); exact BK267.out) hg (Kd.R_away HO_3.out (fun _ hk => hk.2))); have n1_ := Aside0.mk (hb); have n2_ := Aside0.mk (ho); clear BK267; clear HB; clear HO_3; have BK267 := n0_; have HB := n1_; have HO270 := n2_; clear n0_ n1_ n2_; clear ho hb hg hat))
                go_roundg k1
                case measure => have := HK1.out; omega
                case rel => exact ⟨(y268), (wrap64 (x4_1 + t265)), (by first | rfl | (simp; done) | (simp [*]; done)), H', ⟨by have := HK1.out; omega⟩, ⟨by (with_reducible repeat (first | apply Kd.R_alloc | apply Kd.R_drewN | apply Kd.R_drew)); exact Kd.R_mono HO270.out (fun _ hk => trivial)⟩, ⟨by repeat (first | (with_reducible first | exact HB.out | apply below_alloc | apply pw_below_drewN | apply below_drew1 | refine below_set ?_ GE267.out) | exact HB.out)⟩⟩
              · rw [if_neg c7] at H
                exact absurd H (by simp)
            · rw [if_neg c6] at H
              have c6b0 : (t266 == 0) = false := beq_eq_false_iff_ne.mpr c6
              have c6b1 : (t266 != 0) = true := bne_iff_ne.mpr c6
              have H' := Aside0.mk H
              clear H
              go_wp2_with (first | ((with_reducible refine gate_callee (f := 24) rfl ?_); refine goesL_ (some 16) rfl rfl Try.func24 (by kernel_rfl) rfl #[.string (a0.extract (x4_1 : Int).toNat a0.size)] rfl (by (try simp only [List.map_toArray, List.map_cons, List.map_nil]); first | done | rfl | (simp only [List.length_drop, List.length_take]; rfl)) ?_; (with_reducible refine (stylusref12_One.calls k1 (a0.extract (x4_1 : Int).toNat a0.size) t262 t263 t264 t265 t266 _ A5.out).mono ?_); rintro e w12 ⟨rfl, hb⟩; refine ⟨_, rfl, ?_⟩; have n0_ := Aside0.mk (Kd.R_below (by (with_reducible repeat (first | apply Kd.R_alloc | apply Kd.R_drewN | apply Kd.R_drew)); exact HO_3.out) hb); have n1_ := Aside0.mk (below_step (by repeat (first | (with_reducible first | exact HB.out | apply below_alloc | apply pw_below_drewN | apply below_drew1) | exact HB.out)) hb); clear HO_3; clear HB; have HO_3 := n0_; have HB := n1_; clear n0_ n1_; (try clear hb); (try clear hb2); (try clear hk); (try clear hi)) | ((with_reducible refine gate_dst (N := 5) rfl ?_); refine box_event ?hg (N := 5) ?hd (cs := #[.int .i64 0, .int .i64 0, .string (⟨#[]⟩ : ByteArray)]) (t := 39) ?hr ?_; (case hd => rfl); (case hg => rfl); (case hr => first | (go_simp; done) | (go_simp; rfl)); intro gb267 hg w13 hbox hb; have n0_ := Aside0.mk (Kd.R_below (Kd.R_elderB (by (with_reducible repeat (first | apply Kd.R_alloc | apply Kd.R_drewN | apply Kd.R_drew)); exact HO_3.out) gb267 (Nat.le_of_eq hg.symm)) hb); have n1_ := Aside0.mk (below_step (by repeat (first | (with_reducible first | exact HB.out | apply below_alloc | apply pw_below_drewN | apply below_drew1) | exact HB.out)) hb); have n2_ := Aside0.mk (hbox); have n3_ := Aside0.mk ((by rw [hg]; exact (below_size (by repeat (first | (with_reducible first | exact HB.out | apply below_alloc | apply pw_below_drewN | apply below_drew1) | exact HB.out))) : w.heap.size ≤ gb267)); have n4_ := Aside0.mk ((by rw [hg]; exact (below_size (by repeat (first | (with_reducible first | exact HB.out | apply below_alloc | apply pw_below_drewN | apply below_drew1) | exact HB.out))) : w.heap.size ≤ gb267)); clear HO_3; clear HB; have HO_3 := n0_; have HB := n1_; have BK267 := n2_; have GW267 := n3_; have GE267 := n4_; clear n0_ n1_ n2_ n3_ n4_; clear hb hbox hg; have hcz14_0 : w13.cell? ⟨gb267, 0, none⟩ = some (.int .i64 0) := (blk_cell BK267.out 0).trans rfl; have hcz14_1 : w13.cell? ⟨gb267, 1, none⟩ = some (.int .i64 0) := (blk_cell BK267.out 1).trans rfl; have hcz14_2 : w13.cell? ⟨gb267, 2, none⟩ = some (.string (⟨#[]⟩ : ByteArray)) := (blk_cell BK267.out 2).trans rfl; have hfz14_0 := blk_frozen BK267.out 0; have hfz14_1 := blk_frozen BK267.out 1; have hfz14_2 := blk_frozen BK267.out 2))
              go_roundg k1
              case measure => have := HK1.out; omega
              case rel => exact ⟨(x3_1), (wrap64 (x4_1 + 1)), (by first | rfl | (simp; done) | (simp [*]; done)), H', ⟨by have := HK1.out; omega⟩, ⟨by (with_reducible repeat (first | apply Kd.R_alloc | apply Kd.R_drewN | apply Kd.R_drew)); exact Kd.R_mono (Kd.R_far (p := ⟨gb267, 2, none⟩) (Kd.R_far (p := ⟨gb267, 1, none⟩) (Kd.R_far (p := ⟨gb267, 0, none⟩) (Kd.R_mono HO_3.out (fun k_ hk => (⟨hk, hk.2⟩ : _ ∧ k_ ≠ gb267))) (fun _ hk => hk.2) (.int .i64 t262)) (fun _ hk => hk.2) (.int .i64 t263)) (fun _ hk => hk.2) (.string t264)) (fun _ hk => trivial)⟩, ⟨by repeat (first | (with_reducible first | exact HB.out | apply below_alloc | apply pw_below_drewN | apply below_drew1 | refine below_set ?_ GE267.out) | exact HB.out)⟩⟩
          · rw [if_neg c4] at H
            exact absurd H (by simp)
        · rw [if_neg c3] at H
          exact absurd H (by simp)
      · rw [if_neg c2] at H
        have c2b0 : decide (x4_1 < (a0.size : Int)) = false := decide_eq_false c2
        clear c2
        obtain rfl := Option.some.inj H
        go_wp2
        go_ret
        exact ⟨_, by first | rfl | (simp [errW_none, errW_some] <;> rfl) | (simp [*, errW_none, errW_some] <;> rfl), by (with_reducible repeat (first | apply Kd.R_alloc | apply Kd.R_drewN | apply Kd.R_drew)); exact HO_3.out, by repeat (first | (with_reducible first | exact HB.out | apply below_alloc | apply pw_below_drewN | apply below_drew1) | exact HB.out)⟩

/-! ### styluslaw13_ScanAnys: function 7 -/
def styluslaw13_ScanAnys.f (k : Nat) (a0 : ByteArray) : Option (Bool) := if (a0.size : Int) > 600 then ((styluslaw13_lives.f k).bind fun t271 => (some t271)) else ((scan_Any.f k a0).bind fun t272 => ((stylusref13_Any.f k a0).bind fun t275 => ((stylusref13_Same.f k t272 t275).bind fun t278 => (if t278 = true then ((styluslaw13_lives.f k).bind fun t279 => (some t279)) else (some false)))))
theorem styluslaw13_ScanAnys.mono : ∀ a0 k, LeO (styluslaw13_ScanAnys.f k a0) (styluslaw13_ScanAnys.f (k + 1) a0) := by
  intro a0 k
  unfold styluslaw13_ScanAnys.f
  repeat' first
      | (with_reducible exact scan_Any.mono _ _)
      | (with_reducible exact styluslaw13_lives.mono _)
      | (with_reducible exact stylusref13_Any.mono _ _)
      | (with_reducible exact stylusref13_Same.mono _ _ _)
      | (with_reducible exact LeO.refl _)
      | (with_reducible exact LeO.none _)
      | (with_reducible refine LeO.ite ?_ ?_)
      | (with_reducible refine LeO.bind ?_ (fun _ => ?_))
      | exact scan_Any.mono _ _
      | exact styluslaw13_lives.mono _
      | exact stylusref13_Any.mono _ _
      | exact stylusref13_Same.mono _ _ _
      | exact LeO.none _
      | refine LeO.ite ?_ ?_
      | refine LeO.bind ?_ (fun _ => ?_)
set_option maxHeartbeats 8000000 in
set_option maxRecDepth 100000 in
theorem styluslaw13_ScanAnys.calls (k : Nat) (a0 : ByteArray) (r : Bool) (w : World) (h : styluslaw13_ScanAnys.f k a0 = some r) :
    Calls Try.prog 7 #[.string a0] w fun e w' => e = .returned (.bool r) ∧ Below w.heap.size w w' := by
  have HB := Aside0.mk (Below.refl w.heap.size w)
  have H : (if (a0.size : Int) > 600 then ((styluslaw13_lives.f k).bind fun t271 => (some t271)) else ((scan_Any.f k a0).bind fun t272 => ((stylusref13_Any.f k a0).bind fun t275 => ((stylusref13_Same.f k t272 t275).bind fun t278 => (if t278 = true then ((styluslaw13_lives.f k).bind fun t279 => (some t279)) else (some false)))))) = some r := h
  clear h
  by_cases c2 : (a0.size : Int) > 600
  · rw [if_pos c2] at H
    have c2b0 : decide (600 < (a0.size : Int)) = true := decide_eq_true c2
    have c2b1 : decide (600 < a0.size) = true := decide_eq_true (by omega)
    clear c2
    replace H := Option.bind_eq_some_iff.mp H
    obtain ⟨t271, A30, H⟩ := H
    replace H : (some t271) = some r := H
    have A3 := Aside0.mk A30
    clear A30
    obtain rfl := Option.some.inj H
    go_enter Try.func7, Try.ntmps7
    go_wp2_with (first | ((with_reducible refine gate_callee (f := 8) rfl ?_); refine goesL_ (some 6) rfl rfl Try.func8 (by kernel_rfl) rfl #[] rfl (by (try simp only [List.map_toArray, List.map_cons, List.map_nil]); first | done | rfl | (simp only [List.length_drop, List.length_take]; rfl)) ?_; (with_reducible refine (styluslaw13_lives.calls k  t271 _ A3.out).mono ?_); rintro e w4 ⟨rfl, hb⟩; refine ⟨_, rfl, ?_⟩; have n0_ := Aside0.mk (below_step (by repeat (first | (with_reducible first | exact HB.out | apply below_alloc | apply pw_below_drewN | apply below_drew1) | exact HB.out)) hb); clear HB; have HB := n0_; clear n0_; (try clear hb); (try clear hb2); (try clear hk); (try clear hi)))
    go_ret
    exact ⟨by first | rfl | (simp [errW_none, errW_some] <;> rfl) | (simp [*, errW_none, errW_some] <;> rfl), by repeat (first | (with_reducible first | exact HB.out | apply below_alloc | apply pw_below_drewN | apply below_drew1) | exact HB.out)⟩
  · rw [if_neg c2] at H
    have c2b0 : decide (600 < (a0.size : Int)) = false := decide_eq_false c2
    have c2b1 : decide (600 < a0.size) = false := decide_eq_false (by omega)
    clear c2
    replace H := Option.bind_eq_some_iff.mp H
    obtain ⟨t272, A50, H⟩ := H
    replace H : ((stylusref13_Any.f k a0).bind fun t275 => ((stylusref13_Same.f k t272 t275).bind fun t278 => (if t278 = true then ((styluslaw13_lives.f k).bind fun t279 => (some t279)) else (some false)))) = some r := H
    have A5 := Aside0.mk A50
    clear A50
    replace H := Option.bind_eq_some_iff.mp H
    obtain ⟨t275, A60, H⟩ := H
    replace H : ((stylusref13_Same.f k t272 t275).bind fun t278 => (if t278 = true then ((styluslaw13_lives.f k).bind fun t279 => (some t279)) else (some false))) = some r := H
    have A6 := Aside0.mk A60
    clear A60
    replace H := Option.bind_eq_some_iff.mp H
    obtain ⟨t278, A70, H⟩ := H
    replace H : (if t278 = true then ((styluslaw13_lives.f k).bind fun t279 => (some t279)) else (some false)) = some r := H
    have A7 := Aside0.mk A70
    clear A70
    by_cases c8 : t278 = true
    · subst c8
      have H1 : ((styluslaw13_lives.f k).bind fun t279 => (some t279)) = some r := by rw [if_pos rfl] at H; exact H
      clear H
      have H := H1
      clear H1
      replace H := Option.bind_eq_some_iff.mp H
      obtain ⟨t279, A90, H⟩ := H
      replace H : (some t279) = some r := H
      have A9 := Aside0.mk A90
      clear A90
      obtain rfl := Option.some.inj H
      go_enter Try.func7, Try.ntmps7
      go_wp2_with (first | ((with_reducible refine gate_callee (f := 20) rfl ?_); refine goesL_ (some 8) rfl rfl Try.func20 (by kernel_rfl) rfl #[.string a0] rfl (by (try simp only [List.map_toArray, List.map_cons, List.map_nil]); first | done | rfl | (simp only [List.length_drop, List.length_take]; rfl)) ?_; (with_reducible refine (scan_Any.calls k a0 t272 _ A5.out).mono ?_); rintro e w10 ⟨v273, rfl, ho0, hb⟩; refine ⟨_, rfl, ?_⟩; have n0_ := Aside0.mk (Kd.R_lower ho0 (below_size (by repeat (first | (with_reducible first | exact HB.out | apply below_alloc | apply pw_below_drewN | apply below_drew1) | exact HB.out)))); have n1_ := Aside0.mk (below_step (by repeat (first | (with_reducible first | exact HB.out | apply below_alloc | apply pw_below_drewN | apply below_drew1) | exact HB.out)) hb); clear HB; have HO274 := n0_; have HB := n1_; clear n0_ n1_; (try clear hb); (try clear hb2); (try clear hk); (try clear hi); (try clear ho0)) | ((with_reducible refine gate_callee (f := 21) rfl ?_); refine goesL_ (some 10) rfl rfl Try.func21 (by kernel_rfl) rfl #[.string a0] rfl (by (try simp only [List.map_toArray, List.map_cons, List.map_nil]); first | done | rfl | (simp only [List.length_drop, List.length_take]; rfl)) ?_; (with_reducible refine (stylusref13_Any.calls k a0 t275 _ A6.out).mono ?_); rintro e w11 ⟨v276, rfl, ho0, hb⟩; refine ⟨_, rfl, ?_⟩; have n0_ := Aside0.mk (Kd.R_elder' (by (with_reducible repeat (first | apply Kd.R_alloc | apply Kd.R_drewN | apply Kd.R_drew)); exact HO274.out) (Kd.R_base ho0) hb); have n1_ := Aside0.mk (Kd.R_lower (Kd.R_new' ho0 (Kd.R_lt (by (with_reducible repeat (first | apply Kd.R_alloc | apply Kd.R_drewN | apply Kd.R_drew)); exact HO274.out))) (below_size (by repeat (first | (with_reducible first | exact HB.out | apply below_alloc | apply pw_below_drewN | apply below_drew1) | exact HB.out)))); have n2_ := Aside0.mk (below_step (by repeat (first | (with_reducible first | exact HB.out | apply below_alloc | apply pw_below_drewN | apply below_drew1) | exact HB.out)) hb); clear HO274; clear HB; have HO274 := n0_; have HO277 := n1_; have HB := n2_; clear n0_ n1_ n2_; (try clear hb); (try clear hb2); (try clear hk); (try clear hi); (try clear ho0); obtain ⟨Ao12, co12, eo12⟩ := Kd.R_slice HO274.out; subst eo12; obtain ⟨Ao13, co13, eo13⟩ := Kd.R_slice HO277.out; subst eo13) | ((with_reducible refine gate_callee (f := 11) rfl ?_); refine goesL_ (some 11) rfl rfl Try.func11 (by kernel_rfl) rfl #[.slice Ao12 t272.length co12, .slice Ao13 t275.length co13] rfl (by (try simp only [List.map_toArray, List.map_cons, List.map_nil]); first | done | rfl | (simp only [List.length_drop, List.length_take]; rfl)) ?_; (with_reducible refine (stylusref13_Same.calls k _ _ t272 _ _ t275 true _ ?side1 ?side2 ?side3 ?side4 A7.out).mono ?_); (case side1 => repeat (first | exact (Kd.R_reads' HO274.out).2.2 | (with_reducible refine Kd.C_alloc ?_ _) | (with_reducible refine Kd.C_drewN ?_ _) | (with_reducible refine Kd.C_drew ?_))); (case side2 => exact (Kd.R_reads' HO274.out).2.1); (case side3 => repeat (first | exact (Kd.R_reads' HO277.out).2.2 | (with_reducible refine Kd.C_alloc ?_ _) | (with_reducible refine Kd.C_drewN ?_ _) | (with_reducible refine Kd.C_drew ?_))); (case side4 => exact (Kd.R_reads' HO277.out).2.1); rintro e w' ⟨rfl, ⟨nd, rfl⟩⟩; refine ⟨_, rfl, ?_⟩) | (go_at_call 8; (with_reducible refine (styluslaw13_lives.calls k  t279 _ A9.out).mono ?_); rintro e w14 ⟨rfl, hb⟩; have n0_ := Aside0.mk (Kd.R_below (by (with_reducible repeat (first | apply Kd.R_alloc | apply Kd.R_drewN | apply Kd.R_drew)); exact HO274.out) hb); have n1_ := Aside0.mk (Kd.R_below (by (with_reducible repeat (first | apply Kd.R_alloc | apply Kd.R_drewN | apply Kd.R_drew)); exact HO277.out) hb); have n2_ := Aside0.mk (below_step (by repeat (first | (with_reducible first | exact HB.out | apply below_alloc | apply pw_below_drewN | apply below_drew1) | exact HB.out)) hb); clear HO274; clear HO277; clear HB; have HO274 := n0_; have HO277 := n1_; have HB := n2_; clear n0_ n1_ n2_; (try clear hb); (try clear hb2); (try clear hk); (try clear hi)))
      go_ret
      exact ⟨by first | rfl | (simp [errW_none, errW_some] <;> rfl) | (simp [*, errW_none, errW_some] <;> rfl), by repeat (first | (with_reducible first | exact HB.out | apply below_alloc | apply pw_below_drewN | apply below_drew1) | exact HB.out)⟩
    · replace c8 := Bool.eq_false_iff.mpr c8
      subst c8
      have H1 : (some false) = some r := by rw [if_neg (show ¬ (false = true) by decide)] at H; exact H
      clear H
      have H := H1
      clear H1
      obtain rfl := Option.some.inj H
      go_enter Try.func7, Try.ntmps7
      go_wp2_with (first | ((with_reducible refine gate_callee (f := 20) rfl ?_); refine goesL_ (some 8) rfl rfl Try.func20 (by kernel_rfl) rfl #[.string a0] rfl (by (try simp only [List.map_toArray, List.map_cons, List.map_nil]); first | done | rfl | (simp only [List.length_drop, List.length_take]; rfl)) ?_; (with_reducible refine (scan_Any.calls k a0 t272 _ A5.out).mono ?_); rintro e w15 ⟨v273, rfl, ho0, hb⟩; refine ⟨_, rfl, ?_⟩; have n0_ := Aside0.mk (Kd.R_lower ho0 (below_size (by repeat (first | (with_reducible first | exact HB.out | apply below_alloc | apply pw_below_drewN | apply below_drew1) | exact HB.out)))); have n1_ := Aside0.mk (below_step (by repeat (first | (with_reducible first | exact HB.out | apply below_alloc | apply pw_below_drewN | apply below_drew1) | exact HB.out)) hb); clear HB; have HO274 := n0_; have HB := n1_; clear n0_ n1_; (try clear hb); (try clear hb2); (try clear hk); (try clear hi); (try clear ho0)) | ((with_reducible refine gate_callee (f := 21) rfl ?_); refine goesL_ (some 10) rfl rfl Try.func21 (by kernel_rfl) rfl #[.string a0] rfl (by (try simp only [List.map_toArray, List.map_cons, List.map_nil]); first | done | rfl | (simp only [List.length_drop, List.length_take]; rfl)) ?_; (with_reducible refine (stylusref13_Any.calls k a0 t275 _ A6.out).mono ?_); rintro e w16 ⟨v276, rfl, ho0, hb⟩; refine ⟨_, rfl, ?_⟩; have n0_ := Aside0.mk (Kd.R_elder' (by (with_reducible repeat (first | apply Kd.R_alloc | apply Kd.R_drewN | apply Kd.R_drew)); exact HO274.out) (Kd.R_base ho0) hb); have n1_ := Aside0.mk (Kd.R_lower (Kd.R_new' ho0 (Kd.R_lt (by (with_reducible repeat (first | apply Kd.R_alloc | apply Kd.R_drewN | apply Kd.R_drew)); exact HO274.out))) (below_size (by repeat (first | (with_reducible first | exact HB.out | apply below_alloc | apply pw_below_drewN | apply below_drew1) | exact HB.out)))); have n2_ := Aside0.mk (below_step (by repeat (first | (with_reducible first | exact HB.out | apply below_alloc | apply pw_below_drewN | apply below_drew1) | exact HB.out)) hb); clear HO274; clear HB; have HO274 := n0_; have HO277 := n1_; have HB := n2_; clear n0_ n1_ n2_; (try clear hb); (try clear hb2); (try clear hk); (try clear hi); (try clear ho0); obtain ⟨Ao17, co17, eo17⟩ := Kd.R_slice HO274.out; subst eo17; obtain ⟨Ao18, co18, eo18⟩ := Kd.R_slice HO277.out; subst eo18) | ((with_reducible refine gate_callee (f := 11) rfl ?_); refine goesL_ (some 11) rfl rfl Try.func11 (by kernel_rfl) rfl #[.slice Ao17 t272.length co17, .slice Ao18 t275.length co18] rfl (by (try simp only [List.map_toArray, List.map_cons, List.map_nil]); first | done | rfl | (simp only [List.length_drop, List.length_take]; rfl)) ?_; (with_reducible refine (stylusref13_Same.calls k _ _ t272 _ _ t275 false _ ?side1 ?side2 ?side3 ?side4 A7.out).mono ?_); (case side1 => repeat (first | exact (Kd.R_reads' HO274.out).2.2 | (with_reducible refine Kd.C_alloc ?_ _) | (with_reducible refine Kd.C_drewN ?_ _) | (with_reducible refine Kd.C_drew ?_))); (case side2 => exact (Kd.R_reads' HO274.out).2.1); (case side3 => repeat (first | exact (Kd.R_reads' HO277.out).2.2 | (with_reducible refine Kd.C_alloc ?_ _) | (with_reducible refine Kd.C_drewN ?_ _) | (with_reducible refine Kd.C_drew ?_))); (case side4 => exact (Kd.R_reads' HO277.out).2.1); rintro e w' ⟨rfl, ⟨nd, rfl⟩⟩; refine ⟨_, rfl, ?_⟩))
      go_ret
      exact ⟨by first | rfl | (simp [errW_none, errW_some] <;> rfl) | (simp [*, errW_none, errW_some] <;> rfl), by repeat (first | (with_reducible first | exact HB.out | apply below_alloc | apply pw_below_drewN | apply below_drew1) | exact HB.out)⟩

/-- THE ONE PURE STATEMENT of styluslaw13_ScanAnys: yours. -/
def styluslaw13_ScanAnys.Pure : Prop := ∀ (a0 : ByteArray), a0.size ≤ 140737488351232 → ∃ k, styluslaw13_ScanAnys.f k a0 = some true
theorem styluslaw13_ScanAnys.walk (P : styluslaw13_ScanAnys.Pure) (a0 : ByteArray) (w : World) (w0 : a0.size ≤ 140737488351232) :
    Calls Try.prog 7 #[.string a0] w fun e w' => e = .returned (.bool true) ∧ Below w.heap.size w w' := by
  obtain ⟨k, h⟩ := P a0 w0
  refine (styluslaw13_ScanAnys.calls k a0 true w h).mono ?_
  rintro e w' ⟨rfl, hd⟩
  exact ⟨rfl, hd⟩

end Go.Proofs.Ytinoidkmobmcpaa.P
