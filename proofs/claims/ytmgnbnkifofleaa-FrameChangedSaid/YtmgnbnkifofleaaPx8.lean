-- Laid by a program of this session (wip/tools/fork_print.py over the kit's print) out of Lean's print of the translation. Lean checks it.
import Derived.Test.YtmgnbnkifofleaaPx0
import Derived.Test.YtmgnbnkifofleaaPx2
import Derived.Test.YtmgnbnkifofleaaPx3
import Derived.Test.YtmgnbnkifofleaaPx4
namespace Go.Proofs.Ytmgnbnkifofleaa.P
open Go.RowKit Go.Proofs.YtmgnbnkifofleaaW.PrintWords Go.Proofs.YtmgnbnkifofleaaW.PrintLast Go.Proofs.YtmgnbnkifofleaaW.PrintMore
attribute [local go_sem] max2_int min2_int max_two min_two max_three min_three max_four min_four   -- for this text's walks alone
set_option linter.unusedVariables false
set_option linter.unusedSimpArgs false

/-! ### styluslaw12_FrameChanged: function 6 -/
-- NEEDS stylus/styluslaw12.lives stylus/frame.Lay stylus/frame.One
-- []byte(s), a byte of it another one, string(b)
def styluslaw12_FrameChanged.alter (s : ByteArray) (i : Int) (y : Int) : ByteArray := strOfNums ((bytesOf s).set i.toNat (Go.bits .xor .u8 (bt s i) y))
def styluslaw12_FrameChanged.none_ (k : Nat) (s d : ByteArray) : Option Bool := if (s.size : Int) = wrap64 (16 + (d.size : Int)) then (styluslaw12_lives.f k) else (some false)
def styluslaw12_FrameChanged.rest (k : Nat) (s d : ByteArray) (at_ y : Int) : Option Bool :=
  if at_ < 0 then (styluslaw12_FrameChanged.none_ k s d) else (if at_ ≥ (d.size : Int) then (styluslaw12_FrameChanged.none_ k s d) else (if y = 0 then (styluslaw12_FrameChanged.none_ k s d) else
    (if (s.size : Int) < wrap64 (16 + (d.size : Int)) then (styluslaw12_FrameChanged.none_ k s d) else
      (if s.size ≤ 9223372036854775807 then ((frame_One.f k (styluslaw12_FrameChanged.alter s (16 + at_) y)).bind fun o => (if o.2.2.2.1 = 0 then (if o.2.2.2.2 = 19 then (styluslaw12_lives.f k) else (some false)) else (some false))) else none))))
def styluslaw12_FrameChanged.f (k : Nat) (a0_0 : Int) (a0_1 : Int) (a0_2 : ByteArray) (a1_0 : Int) (a1_1 : Int) (a2 : Int) : Option Bool :=
  if (a0_2.size : Int) > 1024 then (styluslaw12_lives.f k) else ((frame_Lay.f k a0_0 a0_1 a0_2).bind fun b => (if b.2 = 0 then
    (if 0 ≤ a2 then (if a2 < (b.1.size : Int) then ((frame_One.f k (b.1.extract 0 a2.toNat)).bind fun o => (if o.2.2.2.1 = 0 then (if o.2.2.2.2 = 18 then (styluslaw12_FrameChanged.rest k b.1 a0_2 a1_0 a1_1) else (some false)) else (some false)))
      else (styluslaw12_FrameChanged.rest k b.1 a0_2 a1_0 a1_1)) else (styluslaw12_FrameChanged.rest k b.1 a0_2 a1_0 a1_1)) else (styluslaw12_lives.f k)))
theorem styluslaw12_FrameChanged.mono : ∀ a0 a1 a2 a3 a4 a5 k, LeO (styluslaw12_FrameChanged.f k a0 a1 a2 a3 a4 a5) (styluslaw12_FrameChanged.f (k + 1) a0 a1 a2 a3 a4 a5) := by
  intro a0 a1 a2 a3 a4 a5 k
  have hn : ∀ s d, LeO (styluslaw12_FrameChanged.none_ k s d) (styluslaw12_FrameChanged.none_ (k + 1) s d) := fun s d => LeO.ite (styluslaw12_lives.mono _) (LeO.refl _)
  have hr : ∀ s d x y, LeO (styluslaw12_FrameChanged.rest k s d x y) (styluslaw12_FrameChanged.rest (k + 1) s d x y) := fun s d x y =>
    LeO.ite (hn _ _) (LeO.ite (hn _ _) (LeO.ite (hn _ _) (LeO.ite (hn _ _) (LeO.ite (LeO.bind (frame_One.mono _ _) fun _ => LeO.ite (LeO.ite (styluslaw12_lives.mono _) (LeO.refl _)) (LeO.refl _)) (LeO.refl _)))))
  unfold styluslaw12_FrameChanged.f
  exact LeO.ite (styluslaw12_lives.mono _) (LeO.bind (frame_Lay.mono _ _ _ _) fun _ => LeO.ite (LeO.ite (LeO.ite (LeO.bind (frame_One.mono _ _) fun _ => LeO.ite (LeO.ite (hr _ _ _ _) (LeO.refl _)) (LeO.refl _)) (hr _ _ _ _)) (hr _ _ _ _)) (styluslaw12_lives.mono _))
theorem styluslaw12_FrameChanged.free (W : World) (e : TypeId) (s : ByteArray) (i : Nat) (h : i < s.size) : (Lib.bytesWorld W e s).frozen? ⟨W.heap.size, i, none⟩ = false := by
  simp only [World.frozen?, Lib.bytesWorld_at_new]
  have : ¬ (Lib.bytesCells W e s).size ≤ i := by
    simp only [Lib.bytesCells, Array.size_append, Array.size_map]
    have : s.data.size = s.size := rfl
    omega
  simp [this]
theorem styluslaw12_FrameChanged.at_ (W : World) (e : TypeId) (s : ByteArray) (i : Int) (h0 : 0 ≤ i) (h1 : i < (s.size : Int)) (hs : s.size ≤ 9223372036854775807) : (Lib.bytesWorld W e s).cell? ⟨W.heap.size, i.toNat, none⟩ = some (.int .u8 (bt s i)) := by
  obtain ⟨ad_, ea_, hc_⟩ := (bytes_reads W e s hs).at_ i h0 (by omega)
  obtain rfl := Option.some.inj ea_
  rwa [add_plain, rd_bytesOf] at hc_
theorem styluslaw12_FrameChanged.put {w : World} {b n : Nat} {xs : List Int} (h : ReadsInt w .u8 (some ⟨b, 0, none⟩) n xs) (i : Nat) (hi : i < n) (x : Int) : ReadsInt (w.setCell ⟨b, i, none⟩ (.int .u8 x)) .u8 (some ⟨b, 0, none⟩) n (xs.set i x) := by
  refine ⟨by rw [List.length_set]; exact h.1, h.2.1, fun hn => ⟨_, rfl, fun j hj => ?_⟩⟩
  obtain ⟨ad, e, hc⟩ := h.2.2 hn
  obtain rfl := Option.some.inj e
  have hcj := hc j hj
  rw [add_plain] at hcj ⊢
  have hl : xs.length = n := h.1
  by_cases hij : i = j
  · subst hij
    rw [World.cell?_setCell_same _ _ _ hcj]
    simp [List.getD_eq_getElem?_getD, hl, hi]
  · rw [World.cell?_setCell_other _ _ _ _ (by intro h; simp only [Addr.mk.injEq] at h; omega), hcj]
    simp [List.getD_eq_getElem?_getD, List.getElem?_set_ne hij]
set_option maxHeartbeats 8000000 in
set_option maxRecDepth 100000 in
theorem styluslaw12_FrameChanged.calls (k : Nat) (a0_0 : Int) (a0_1 : Int) (a0_2 : ByteArray) (a1_0 : Int) (a1_1 : Int) (a2 : Int) (r : Bool) (w : World) (h : styluslaw12_FrameChanged.f k a0_0 a0_1 a0_2 a1_0 a1_1 a2 = some r) :
    Calls Try.prog 6 #[.agg #[.int .i64 a0_0, .int .i64 a0_1, .string a0_2], .agg #[.int .i64 a1_0, .int .u8 a1_1], .int .i64 a2] w fun e w' => e = .returned (.bool r) ∧ Below w.heap.size w w' := by
  have hu23 := Try.underlying23
  have hu35 := Try.underlying35
  unfold styluslaw12_FrameChanged.f at h
  have HH := Aside0.mk h
  clear h
  go_enter Try.func6, Try.ntmps6
  go_upto_region 1 with fail
  go_cut [7, 8] (fun v7 v8 wx => v7 = .int .i64 a1_0 ∧ v8 = .int .u8 a1_1 ∧ (wx.cell? ⟨w.heap.size, 0, none⟩ = some (.int .i64 a0_0) ∧ wx.cell? ⟨w.heap.size, 1, none⟩ = some (.int .i64 a0_1) ∧ wx.cell? ⟨w.heap.size, 2, none⟩ = some (.string a0_2)) ∧ Aside0 (wx.heap[w.heap.size]? = some (.cells #[.int .i64 a0_0, .int .i64 a0_1, .string a0_2] 23 (0, 0)) ∧ Below w.heap.size w wx))
  case first =>
    go_quiet (fail)
    go_wp2_with fail
    go_meet
    have k0_ : ((w.alloc (.cells #[.int .i64 a0_0, .int .i64 a0_1, .string a0_2] 23)).alloc (.cells #[.int .i64 a1_0, .int .u8 a1_1] 35)).heap[w.heap.size]? = some (.cells #[.int .i64 a0_0, .int .i64 a0_1, .string a0_2] 23 (0, 0)) := blk_alloc (heap_alloc_new w _) _
    have k1_ := blk_drewN k0_ nq
    exact ⟨rfl, rfl, ⟨(blk_cell k1_ 0).trans rfl, (blk_cell k1_ 1).trans rfl, (blk_cell k1_ 2).trans rfl⟩, ⟨k1_, pw_below_drewN (below_alloc (below_alloc (Below.refl _ _) _) _) _⟩⟩
  obtain ⟨rfl, rfl, ⟨hx0, hx1, hx2⟩, BK⟩ := hcut
  have h := HH.out
  clear HH
  by_cases c1 : (a0_2.size : Int) > 1024
  · rw [if_pos c1] at h
    have c1b : decide (1024 < (a0_2.size : Int)) = true := decide_eq_true c1
    have c1c : decide (1024 < a0_2.size) = true := decide_eq_true (by omega)
    have H1 := Aside0.mk h
    clear h c1
    go_wp2_with (go_at_call 7; (with_reducible refine (styluslaw12_lives.calls k r _ H1.out).mono ?_); rintro e w2 ⟨rfl, hb1⟩)
    go_ret
    exact ⟨rfl, below_step BK.out.2 hb1⟩
  rw [if_neg c1] at h
  have c1b : decide (1024 < (a0_2.size : Int)) = false := decide_eq_false c1
  have c1c : decide (1024 < a0_2.size) = false := decide_eq_false (by omega)
  have c1d : a0_2.size ≤ 1024 := by omega
  clear c1
  replace h := Option.bind_eq_some_iff.mp h
  obtain ⟨⟨s, c⟩, A1, h⟩ := h
  have HA1 := Aside0.mk A1
  clear A1
  simp only at h
  by_cases c2 : c = 0
  · rw [if_pos c2] at h
    subst c2
    have HH := Aside0.mk h
    clear h
    go_upto_region 7 with (go_at_call 8; (with_reducible refine (frame_Lay.calls k a0_0 a0_1 a0_2 s 0 _ HA1.out).mono ?_); rintro e w2 ⟨rfl, hb1⟩; have K0 := Aside0.mk (blk_below BK.out.1 hb1); have KB := Aside0.mk (below_step BK.out.2 hb1); clear hb1)
    clear hx0 hx1 hx2 BK
    have hy2 : w2.cell? ⟨w.heap.size, 2, none⟩ = some (.string a0_2) := (blk_cell K0.out 2).trans rfl
    go_cut [42] (fun v42 wx => v42 = .bool (decide (0 ≤ a2 ∧ a2 < (s.size : Int))) ∧ wx = w2)
    case first =>
      by_cases d0 : 0 ≤ a2
      · have d0b : decide (0 ≤ a2) = true := decide_eq_true d0
        by_cases d1 : a2 < (s.size : Int)
        · have d1b : decide (a2 < (s.size : Int)) = true := decide_eq_true d1
          have e_ : decide (0 ≤ a2 ∧ a2 < (s.size : Int)) = true := decide_eq_true ⟨d0, d1⟩
          have E_ := Aside0.mk e_
          clear d0 d1 e_
          go_wp2_with fail
          go_meet
          exact ⟨by rw [E_.out], rfl⟩
        · have d1b : decide (a2 < (s.size : Int)) = false := decide_eq_false d1
          have e_ : decide (0 ≤ a2 ∧ a2 < (s.size : Int)) = false := decide_eq_false (fun z => d1 z.2)
          have E_ := Aside0.mk e_
          clear d0 d1 e_
          go_wp2_with fail
          go_meet
          exact ⟨by rw [E_.out], rfl⟩
      · have d0b : decide (0 ≤ a2) = false := decide_eq_false d0
        have e_ : decide (0 ≤ a2 ∧ a2 < (s.size : Int)) = false := decide_eq_false (fun z => d0 z.1)
        have E_ := Aside0.mk e_
        clear d0 e_
        go_wp2_with fail
        go_meet
        exact ⟨by rw [E_.out], rfl⟩
    obtain ⟨rfl, rfl⟩ := hcut
    go_upto_if 42 with (fail)
    go_cut [] (fun wx => wx.cell? ⟨w.heap.size, 2, none⟩ = some (.string a0_2) ∧ Aside0 (styluslaw12_FrameChanged.rest k s a0_2 a1_0 a1_1 = some r ∧ wx.heap[w.heap.size]? = some (.cells #[.int .i64 a0_0, .int .i64 a0_1, .string a0_2] 23 (0, 0)) ∧ Below w.heap.size w wx))
    case first =>
      have h := HH.out
      clear HH
      by_cases L : 0 ≤ a2 ∧ a2 < (s.size : Int)
      · rw [if_pos L.1, if_pos L.2] at h
        replace h := Option.bind_eq_some_iff.mp h
        obtain ⟨⟨o1, o2, o3, o4, o5⟩, A2, h⟩ := h
        have HA2 := Aside0.mk A2
        clear A2
        simp only at h
        have lb : decide (0 ≤ a2 ∧ a2 < (s.size : Int)) = true := decide_eq_true L
        have q0 : (0 ≤ a2) = True := eq_true L.1
        have q1 : (a2 ≤ (s.size : Int)) = True := eq_true (by omega)
        rw [lb]
        clear lb L
        by_cases f1 : o4 = 0
        · rw [if_pos f1] at h
          subst f1
          by_cases f2 : o5 = 18
          · rw [if_pos f2] at h
            subst f2
            have HR := Aside0.mk h
            clear h
            go_wp2_with (go_at_call 12; (with_reducible refine (frame_One.calls k (s.extract 0 a2.toNat) _ _ _ _ _ _ HA2.out).mono ?_); rintro e w3 ⟨rfl, hb3⟩; have K3 := Aside0.mk (blk_below K0.out hb3); have B3 := Aside0.mk (below_step KB.out hb3); clear hb3)
            go_meet
            have k3_ := blk_alloc K3.out (.cells #[.int .i64 o1, .int .i64 o2, .string o3] 23)
            exact ⟨(blk_cell k3_ 2).trans rfl, ⟨HR.out, k3_, below_alloc B3.out _⟩⟩
          · rw [if_neg f2] at h
            obtain rfl := Option.some.inj h
            have f2b : (o5 != 18) = true := bne_iff_ne.mpr f2
            have f2c : (o5 == 18) = false := beq_eq_false_iff_ne.mpr f2
            clear h f2
            go_wp2_with (go_at_call 12; (with_reducible refine (frame_One.calls k (s.extract 0 a2.toNat) _ _ _ _ _ _ HA2.out).mono ?_); rintro e w3 ⟨rfl, hb3⟩; have K3 := Aside0.mk (blk_below K0.out hb3); have B3 := Aside0.mk (below_step KB.out hb3); clear hb3)
            go_ret
            exact ⟨rfl, below_alloc B3.out _⟩
        · rw [if_neg f1] at h
          obtain rfl := Option.some.inj h
          have f1b : (o4 != 0) = true := bne_iff_ne.mpr f1
          have f1c : (o4 == 0) = false := beq_eq_false_iff_ne.mpr f1
          clear h f1
          go_wp2_with (go_at_call 12; (with_reducible refine (frame_One.calls k (s.extract 0 a2.toNat) _ _ _ _ _ _ HA2.out).mono ?_); rintro e w3 ⟨rfl, hb3⟩; have K3 := Aside0.mk (blk_below K0.out hb3); have B3 := Aside0.mk (below_step KB.out hb3); clear hb3)
          go_ret
          exact ⟨rfl, below_alloc B3.out _⟩
      · have lb : decide (0 ≤ a2 ∧ a2 < (s.size : Int)) = false := decide_eq_false L
        have hR : styluslaw12_FrameChanged.rest k s a0_2 a1_0 a1_1 = some r := by
          by_cases l0 : 0 ≤ a2
          · rw [if_pos l0, if_neg (fun z => L ⟨l0, z⟩)] at h; exact h
          · rw [if_neg l0] at h; exact h
        have HR := Aside0.mk hR
        rw [lb]
        clear h hR lb L
        go_wp2_with fail
        go_meet
        exact ⟨hy2, ⟨HR.out, K0.out, KB.out⟩⟩
    clear hy2 K0 KB HH
    obtain ⟨hy2, HT⟩ := hcut
    have h := HT.out.1
    have KF := Aside0.mk HT.out.2.1
    have KB := Aside0.mk HT.out.2.2
    clear HT
    unfold styluslaw12_FrameChanged.rest at h
    have hw16 : wrap64 (16 + (a0_2.size : Int)) = 16 + (a0_2.size : Int) := by unfold wrap64; omega
    by_cases t1 : a1_0 < 0 ∨ a1_0 ≥ (a0_2.size : Int) ∨ a1_1 = 0 ∨ (s.size : Int) < wrap64 (16 + (a0_2.size : Int))
    · have hn : styluslaw12_FrameChanged.none_ k s a0_2 = some r := by
        by_cases p1 : a1_0 < 0
        · rwa [if_pos p1] at h
        rw [if_neg p1] at h
        by_cases p2 : a1_0 ≥ (a0_2.size : Int)
        · rwa [if_pos p2] at h
        rw [if_neg p2] at h
        by_cases p3 : a1_1 = 0
        · rwa [if_pos p3] at h
        rw [if_neg p3] at h
        by_cases p4 : (s.size : Int) < wrap64 (16 + (a0_2.size : Int))
        · rwa [if_pos p4] at h
        · exact absurd t1 (by rintro (z | z | z | z) <;> contradiction)
      clear h
      unfold styluslaw12_FrameChanged.none_ at hn
      have HN := Aside0.mk hn
      have HT1 := Aside0.mk t1
      have HW := Aside0.mk hw16
      clear hn t1 hw16
      go_upto_region 11 with fail
      go_cut [78] (fun v78 wx => v78 = .bool true ∧ wx.cell? ⟨w.heap.size, 2, none⟩ = some (.string a0_2) ∧ Aside0 (Below w.heap.size w wx))
      case first =>
        by_cases p1 : a1_0 < 0
        · have p1b : decide (a1_0 < 0) = true := decide_eq_true p1
          clear p1
          go_wp2_with fail
          go_meet
          exact ⟨rfl, hy2, ⟨KB.out⟩⟩
        have p1b : decide (a1_0 < 0) = false := decide_eq_false p1
        by_cases p2 : (a0_2.size : Int) ≤ a1_0
        · have p2b : decide ((a0_2.size : Int) ≤ a1_0) = true := decide_eq_true p2
          clear p1 p2
          go_wp2_with fail
          go_meet
          exact ⟨rfl, hy2, ⟨KB.out⟩⟩
        have p2b : decide ((a0_2.size : Int) ≤ a1_0) = false := decide_eq_false p2
        by_cases p3 : a1_1 = 0
        · have p3b : (a1_1 == 0) = true := beq_iff_eq.mpr p3
          clear p1 p2 p3
          go_wp2_with fail
          go_meet
          exact ⟨rfl, hy2, ⟨KB.out⟩⟩
        have p3b : (a1_1 == 0) = false := beq_eq_false_iff_ne.mpr p3
        have p4 : (s.size : Int) < wrap64 (16 + (a0_2.size : Int)) := by
          rcases HT1.out with z | z | z | z
          · exact absurd z p1
          · exact absurd z p2
          · exact absurd z p3
          · exact z
        rw [HW.out] at p4
        have p4b : decide ((s.size : Int) < 16 + (a0_2.size : Int)) = true := decide_eq_true p4
        clear p1 p2 p3 p4
        go_wp2_with fail
        go_meet
        exact ⟨rfl, hy2, ⟨KB.out⟩⟩
      clear hy2 KB
      obtain ⟨rfl, hy2, KB⟩ := hcut
      have hn := HN.out
      clear HN
      rw [HW.out] at hn
      by_cases z1 : (s.size : Int) = 16 + (a0_2.size : Int)
      · rw [if_pos z1] at hn
        have HL := Aside0.mk hn
        have z1b : ((s.size : Int) == 16 + (a0_2.size : Int)) = true := beq_iff_eq.mpr z1
        clear hn z1
        go_wp2_with (go_at_call 7; (with_reducible refine (styluslaw12_lives.calls k r _ HL.out).mono ?_); rintro e w4 ⟨rfl, hb4⟩)
        go_ret
        exact ⟨rfl, below_step KB.out hb4⟩
      · rw [if_neg z1] at hn
        obtain rfl := Option.some.inj hn
        have z1b : ((s.size : Int) == 16 + (a0_2.size : Int)) = false := beq_eq_false_iff_ne.mpr z1
        clear hn z1
        go_wp2_with fail
        go_ret
        exact ⟨rfl, KB.out⟩
    · have q0 : 0 ≤ a1_0 := by
        rcases Int.lt_or_le a1_0 0 with z | z
        · exact absurd (.inl z) t1
        · exact z
      have q1 : a1_0 < (a0_2.size : Int) := by
        rcases Int.lt_or_le a1_0 (a0_2.size : Int) with z | z
        · exact z
        · exact absurd (.inr (.inl z)) t1
      have q2 : a1_1 ≠ 0 := fun z => t1 (.inr (.inr (.inl z)))
      have q3 : ¬ (s.size : Int) < wrap64 (16 + (a0_2.size : Int)) := fun z => t1 (.inr (.inr (.inr z)))
      rw [if_neg (by omega : ¬ a1_0 < 0), if_neg (by omega : ¬ a1_0 ≥ (a0_2.size : Int)), if_neg q2, if_neg q3] at h
      have hsz : s.size ≤ 9223372036854775807 := by
        rcases Nat.lt_or_ge 9223372036854775807 s.size with z | z
        · rw [if_neg (by omega : ¬ s.size ≤ 9223372036854775807)] at h
          cases h
        · exact z
      rw [if_pos hsz] at h
      have HSZ := Aside0.mk hsz
      have HH := Aside0.mk h
      have p1b : decide (a1_0 < 0) = false := decide_eq_false (by omega)
      have p2b : decide ((a0_2.size : Int) ≤ a1_0) = false := decide_eq_false (by omega)
      have p3b : (a1_1 == 0) = false := beq_eq_false_iff_ne.mpr q2
      have p4b : decide ((s.size : Int) < 16 + (a0_2.size : Int)) = false := decide_eq_false (by rw [← hw16]; exact q3)
      have i0 : (16 + a1_0).toNat < s.size := by omega
      have iw : wrap64 (16 + a1_0) = 16 + a1_0 := by unfold wrap64; omega
      have Q0 := Aside0.mk q0
      have Q1 := Aside0.mk q1
      have I0 := Aside0.mk i0
      have IW := Aside0.mk iw
      clear h t1 q0 q1 q2 q3 hw16 i0 iw hsz
      go_upto_region 11 with fail
      go_cut [78] (fun v78 wx => v78 = .bool false ∧ wx.cell? ⟨w.heap.size, 2, none⟩ = some (.string a0_2) ∧ Aside0 (Below w.heap.size w wx))
      case first =>
        go_wp2_with fail
        go_meet
        exact ⟨rfl, hy2, ⟨KB.out⟩⟩
      clear hy2 KB p1b p2b p3b p4b
      obtain ⟨rfl, hy2, KB⟩ := hcut
      clear hy2
      have kb := fun W => print_bytes (P := Try.prog) 9 36 5 Try.underlying9 Try.underlying36 Try.underlying5 s W
      go_upto_region 13 with fail
      go_cut [14] (fun v14 wx => ∃ b c, v14 = .slice (some ⟨b, 0, none⟩) s.size c ∧ wx.cell? ⟨b, (16 + a1_0).toNat, none⟩ = some (.int .u8 (bt s (16 + a1_0))) ∧ wx.frozen? ⟨b, (16 + a1_0).toNat, none⟩ = false ∧ Aside0 (w.heap.size ≤ b ∧ ReadsInt wx .u8 (some ⟨b, 0, none⟩) s.size (bytesOf s) ∧ Below w.heap.size w wx))
      case first =>
        go_wp2_with fail
        go_meet
        exact ⟨_, _, rfl, styluslaw12_FrameChanged.at_ _ _ _ _ (by have := Q0.out; omega) (by have := I0.out; have := Q0.out; omega) HSZ.out, styluslaw12_FrameChanged.free _ _ _ _ I0.out, ⟨KB.out.size, bytes_reads _ _ s HSZ.out, bytes_below KB.out KB.out.size _ _⟩⟩
      clear kb KB
      obtain ⟨b, cp, rfl, hcl, hfr, HB⟩ := hcut
      have iw := IW.out
      have i0 := I0.out
      have q0 := Q0.out
      have i1 : 0 ≤ 16 + a1_0 := by omega
      have i2 : 16 + a1_0 < (s.size : Int) := by omega
      go_upto_region 14 with fail
      go_cut [] (fun wx => Aside0 (ReadsInt wx .u8 (some ⟨b, 0, none⟩) s.size ((bytesOf s).set (16 + a1_0).toNat (Go.bits .xor .u8 (bt s (16 + a1_0)) a1_1)) ∧ Below w.heap.size w wx))
      case first =>
        go_wp2_with fail
        go_meet
        exact ⟨⟨styluslaw12_FrameChanged.put HB.out.2.1 _ i0 _, HB.out.2.2.setCell HB.out.1 _⟩⟩
      clear hcl hfr HB iw i0 q0 i1 i2
      have hst := string_of_reads (P := Try.prog) (c := cp) Try.underlying36 Try.underlying5 Try.underlying9 hcut.out.1
      have HB := Aside0.mk hcut.out.2
      clear hcut
      have h := HH.out
      clear HH
      replace h := Option.bind_eq_some_iff.mp h
      obtain ⟨⟨o1, o2, o3, o4, o5⟩, A2, h⟩ := h
      unfold styluslaw12_FrameChanged.alter at A2
      have HA2 := Aside0.mk A2
      clear A2
      simp only at h
      by_cases f1 : o4 = 0
      · rw [if_pos f1] at h
        subst f1
        by_cases f2 : o5 = 19
        · rw [if_pos f2] at h
          subst f2
          have HL := Aside0.mk h
          clear h
          go_wp2_with (first
            | (go_at_call 12; (with_reducible refine (frame_One.calls k _ _ _ _ _ _ _ HA2.out).mono ?_); rintro e w3 ⟨rfl, hb3⟩)
            | (go_at_call 7; (with_reducible refine (styluslaw12_lives.calls k r _ HL.out).mono ?_); rintro e w4 ⟨rfl, hb4⟩))
          go_ret
          exact ⟨rfl, below_step (below_alloc (below_step HB.out hb3) _) hb4⟩
        · rw [if_neg f2] at h
          obtain rfl := Option.some.inj h
          have f2b : (o5 == 19) = false := beq_eq_false_iff_ne.mpr f2
          clear h f2
          go_wp2_with (go_at_call 12; (with_reducible refine (frame_One.calls k _ _ _ _ _ _ _ HA2.out).mono ?_); rintro e w3 ⟨rfl, hb3⟩)
          go_ret
          exact ⟨rfl, below_alloc (below_step HB.out hb3) _⟩
      · rw [if_neg f1] at h
        obtain rfl := Option.some.inj h
        have f1c : (o4 == 0) = false := beq_eq_false_iff_ne.mpr f1
        clear h f1
        go_wp2_with (go_at_call 12; (with_reducible refine (frame_One.calls k _ _ _ _ _ _ _ HA2.out).mono ?_); rintro e w3 ⟨rfl, hb3⟩)
        go_ret
        exact ⟨rfl, below_alloc (below_step HB.out hb3) _⟩
  · rw [if_neg c2] at h
    have c2b : (c != 0) = true := bne_iff_ne.mpr c2
    have c2c : (c == 0) = false := beq_eq_false_iff_ne.mpr c2
    have H1 := Aside0.mk h
    clear h c2
    go_wp2_with (first
      | (go_at_call 8; (with_reducible refine (frame_Lay.calls k a0_0 a0_1 a0_2 s c _ HA1.out).mono ?_); rintro e w2 ⟨rfl, hb1⟩)
      | (go_at_call 7; (with_reducible refine (styluslaw12_lives.calls k r _ H1.out).mono ?_); rintro e w3 ⟨rfl, hb2⟩))
    go_ret
    exact ⟨rfl, below_step (below_step BK.out.2 hb1) hb2⟩


/-- THE ONE PURE STATEMENT of styluslaw12_FrameChanged. -/
def styluslaw12_FrameChanged.Pure : Prop := ∀ (x0 : S23) (x1 : S35) (x2 : Int), B23 x0 → B35 x1 → (Lit.int .i64 x2).wf = true → ∃ k, styluslaw12_FrameChanged.f k x0.f0 x0.f1 x0.f2 x1.f0 x1.f1 x2 = some true
end Go.Proofs.Ytmgnbnkifofleaa.P
