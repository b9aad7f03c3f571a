-- Laid by a program of this session (wip/tools/fork_print.py over the kit's print) out of Lean's print of the translation. Lean checks it.
import Derived.Test.YtmbindcgghddjaaPx0
import Derived.Test.YtmbindcgghddjaaPx1
import Derived.Test.YtmbindcgghddjaaPx2
import Derived.Test.YtmbindcgghddjaaPx3
namespace Go.Proofs.Ytmbindcgghddjaa.P
open Go.RowKit Go.Proofs.YtmbindcgghddjaaW.PrintWords Go.Proofs.YtmbindcgghddjaaW.PrintLast Go.Proofs.YtmbindcgghddjaaW.PrintMore
attribute [local go_sem] max2_int min2_int max_two min_two max_three min_three max_four min_four   -- for this text's walks alone
set_option linter.unusedVariables false
set_option linter.unusedSimpArgs false

/-! ### styluslaw29_SealReads: function 4 -/
def styluslaw29_SealReads.f (k : Nat) (a0 : ByteArray) : Option (Bool) := if (a0.size : Int) > 1000 then ((styluslaw29_lives.f k).bind fun t146 => (some t146)) else ((seal_Read.f k a0).bind fun bt147 => ((stylusref29_Read.f k a0).bind fun bt150 => (if bt147.1 = bt150.1 then (if bt147.2.1.toList = bt150.2.1.toList then (if bt147.2.2 = bt150.2.2 then ((styluslaw29_lives.f k).bind fun t153 => (some t153)) else (some false)) else (some false)) else (some false))))
theorem styluslaw29_SealReads.mono : ∀ a0 k, LeO (styluslaw29_SealReads.f k a0) (styluslaw29_SealReads.f (k + 1) a0) := by
  intro a0 k
  unfold styluslaw29_SealReads.f
  repeat' first
      | (with_reducible exact seal_Read.mono _ _)
      | (with_reducible exact styluslaw29_lives.mono _)
      | (with_reducible exact stylusref29_Read.mono _ _)
      | (with_reducible exact LeO.refl _)
      | (with_reducible exact LeO.none _)
      | (with_reducible refine LeO.ite ?_ ?_)
      | (with_reducible refine LeO.bind ?_ (fun _ => ?_))
      | exact seal_Read.mono _ _
      | exact styluslaw29_lives.mono _
      | exact stylusref29_Read.mono _ _
      | exact LeO.none _
      | refine LeO.ite ?_ ?_
      | refine LeO.bind ?_ (fun _ => ?_)
set_option maxHeartbeats 8000000 in
set_option maxRecDepth 100000 in
theorem styluslaw29_SealReads.calls (k : Nat) (a0 : ByteArray) (r : Bool) (w : World) (h : styluslaw29_SealReads.f k a0 = some r) :
    Calls Try.prog 4 #[.string a0] w fun e w' => e = .returned (.bool r) ∧ Below w.heap.size w w' := by
  have HB := Aside0.mk (Below.refl w.heap.size w)
  have H : (if (a0.size : Int) > 1000 then ((styluslaw29_lives.f k).bind fun t146 => (some t146)) else ((seal_Read.f k a0).bind fun bt147 => ((stylusref29_Read.f k a0).bind fun bt150 => (if bt147.1 = bt150.1 then (if bt147.2.1.toList = bt150.2.1.toList then (if bt147.2.2 = bt150.2.2 then ((styluslaw29_lives.f k).bind fun t153 => (some t153)) else (some false)) else (some false)) else (some false))))) = some r := h
  clear h
  by_cases c2 : (a0.size : Int) > 1000
  · rw [if_pos c2] at H
    have c2b0 : decide (1000 < (a0.size : Int)) = true := decide_eq_true c2
    have c2b1 : decide (1000 < a0.size) = true := decide_eq_true (by omega)
    clear c2
    replace H := Option.bind_eq_some_iff.mp H
    obtain ⟨t146, A30, H⟩ := H
    replace H : (some t146) = some r := H
    have A3 := Aside0.mk A30
    clear A30
    obtain rfl := Option.some.inj H
    go_enter Try.func4, Try.ntmps4
    go_wp2_with (first | ((with_reducible refine gate_callee (f := 7) rfl ?_); refine goesL_ (some 12) rfl rfl Try.func7 (by kernel_rfl) rfl #[] rfl (by (try simp only [List.map_toArray, List.map_cons, List.map_nil]); first | done | rfl | (simp only [List.length_drop, List.length_take]; rfl)) ?_; (with_reducible refine (styluslaw29_lives.calls k  t146 _ A3.out).mono ?_); rintro e w4 ⟨rfl, hb⟩; refine ⟨_, rfl, ?_⟩; have n0_ := Aside0.mk (below_step (by repeat (first | (with_reducible first | exact HB.out | apply below_alloc | apply pw_below_drewN | apply below_drew1) | exact HB.out)) hb); clear HB; have HB := n0_; clear n0_; (try clear hb); (try clear hb2); (try clear hk); (try clear hi)))
    go_ret
    exact ⟨by first | rfl | (simp [errW_none, errW_some] <;> rfl) | (simp [*, errW_none, errW_some] <;> rfl), by repeat (first | (with_reducible first | exact HB.out | apply below_alloc | apply pw_below_drewN | apply below_drew1) | exact HB.out)⟩
  · rw [if_neg c2] at H
    have c2b0 : decide (1000 < (a0.size : Int)) = false := decide_eq_false c2
    have c2b1 : decide (1000 < a0.size) = false := decide_eq_false (by omega)
    clear c2
    replace H := Option.bind_eq_some_iff.mp H
    obtain ⟨⟨t147, t148, t149⟩, A50, H⟩ := H
    replace H : ((stylusref29_Read.f k a0).bind fun bt150 => (if t147 = bt150.1 then (if t148.toList = bt150.2.1.toList then (if t149 = bt150.2.2 then ((styluslaw29_lives.f k).bind fun t153 => (some t153)) else (some false)) else (some false)) else (some false))) = some r := H
    have A5 := Aside0.mk A50
    clear A50
    replace H := Option.bind_eq_some_iff.mp H
    obtain ⟨⟨t150, t151, t152⟩, A60, H⟩ := H
    replace H : (if t147 = t150 then (if t148.toList = t151.toList then (if t149 = t152 then ((styluslaw29_lives.f k).bind fun t153 => (some t153)) else (some false)) else (some false)) else (some false)) = some r := H
    have A6 := Aside0.mk A60
    clear A60
    by_cases c7 : t147 = t150
    · rw [if_pos c7] at H
      have c7b0 : (t147 == t150) = true := beq_iff_eq.mpr c7
      have c7b1 : (t147 != t150) = false := bne_eq_false_iff_eq.mpr c7
      clear c7
      by_cases c8 : t148.toList = t151.toList
      · rw [if_pos c8] at H
        have c8b0 : (t148.toList == t151.toList) = true := beq_iff_eq.mpr c8
        have c8b1 : (t148.toList != t151.toList) = false := bne_eq_false_iff_eq.mpr c8
        clear c8
        by_cases c9 : t149 = t152
        · rw [if_pos c9] at H
          have c9b0 : (t149 == t152) = true := beq_iff_eq.mpr c9
          have c9b1 : (t149 != t152) = false := bne_eq_false_iff_eq.mpr c9
          clear c9
          replace H := Option.bind_eq_some_iff.mp H
          obtain ⟨t153, A100, H⟩ := H
          replace H : (some t153) = some r := H
          have A10 := Aside0.mk A100
          clear A100
          obtain rfl := Option.some.inj H
          go_enter Try.func4, Try.ntmps4
          go_wp2_with (first | ((with_reducible refine gate_callee (f := 10) rfl ?_); refine goesL_ (some 15) rfl rfl Try.func10 (by kernel_rfl) rfl #[.string a0] rfl (by (try simp only [List.map_toArray, List.map_cons, List.map_nil]); first | done | rfl | (simp only [List.length_drop, List.length_take]; rfl)) ?_; (with_reducible refine (seal_Read.calls k a0 t147 t148 t149 _ A5.out).mono ?_); rintro e w11 ⟨rfl, hb⟩; refine ⟨_, rfl, ?_⟩; have n0_ := Aside0.mk (below_step (by repeat (first | (with_reducible first | exact HB.out | apply below_alloc | apply pw_below_drewN | apply below_drew1) | exact HB.out)) hb); clear HB; have HB := n0_; clear n0_; (try clear hb); (try clear hb2); (try clear hk); (try clear hi)) | ((with_reducible refine gate_callee (f := 11) rfl ?_); refine goesL_ (some 21) rfl rfl Try.func11 (by kernel_rfl) rfl #[.string a0] rfl (by (try simp only [List.map_toArray, List.map_cons, List.map_nil]); first | done | rfl | (simp only [List.length_drop, List.length_take]; rfl)) ?_; (with_reducible refine (stylusref29_Read.calls k a0 t150 t151 t152 _ A6.out).mono ?_); rintro e w' ⟨rfl, ⟨nd, rfl⟩⟩; refine ⟨_, rfl, ?_⟩) | (go_at_call 7; (with_reducible refine (styluslaw29_lives.calls k  t153 _ A10.out).mono ?_); rintro e w12 ⟨rfl, hb⟩; have n0_ := Aside0.mk (below_step (by repeat (first | (with_reducible first | exact HB.out | apply below_alloc | apply pw_below_drewN | apply below_drew1) | exact HB.out)) hb); clear HB; have HB := n0_; clear n0_; (try clear hb); (try clear hb2); (try clear hk); (try clear hi)))
          go_ret
          exact ⟨by first | rfl | (simp [errW_none, errW_some] <;> rfl) | (simp [*, errW_none, errW_some] <;> rfl), by repeat (first | (with_reducible first | exact HB.out | apply below_alloc | apply pw_below_drewN | apply below_drew1) | exact HB.out)⟩
        · rw [if_neg c9] at H
          have c9b0 : (t149 == t152) = false := beq_eq_false_iff_ne.mpr c9
          have c9b1 : (t149 != t152) = true := bne_iff_ne.mpr c9
          obtain rfl := Option.some.inj H
          go_enter Try.func4, Try.ntmps4
          go_wp2_with (first | ((with_reducible refine gate_callee (f := 10) rfl ?_); refine goesL_ (some 15) rfl rfl Try.func10 (by kernel_rfl) rfl #[.string a0] rfl (by (try simp only [List.map_toArray, List.map_cons, List.map_nil]); first | done | rfl | (simp only [List.length_drop, List.length_take]; rfl)) ?_; (with_reducible refine (seal_Read.calls k a0 t147 t148 t149 _ A5.out).mono ?_); rintro e w13 ⟨rfl, hb⟩; refine ⟨_, rfl, ?_⟩; have n0_ := Aside0.mk (below_step (by repeat (first | (with_reducible first | exact HB.out | apply below_alloc | apply pw_below_drewN | apply below_drew1) | exact HB.out)) hb); clear HB; have HB := n0_; clear n0_; (try clear hb); (try clear hb2); (try clear hk); (try clear hi)) | ((with_reducible refine gate_callee (f := 11) rfl ?_); refine goesL_ (some 21) rfl rfl Try.func11 (by kernel_rfl) rfl #[.string a0] rfl (by (try simp only [List.map_toArray, List.map_cons, List.map_nil]); first | done | rfl | (simp only [List.length_drop, List.length_take]; rfl)) ?_; (with_reducible refine (stylusref29_Read.calls k a0 t150 t151 t152 _ A6.out).mono ?_); rintro e w' ⟨rfl, ⟨nd, rfl⟩⟩; refine ⟨_, rfl, ?_⟩))
          go_ret
          exact ⟨by first | rfl | (simp [errW_none, errW_some] <;> rfl) | (simp [*, errW_none, errW_some] <;> rfl), by repeat (first | (with_reducible first | exact HB.out | apply below_alloc | apply pw_below_drewN | apply below_drew1) | exact HB.out)⟩
      · rw [if_neg c8] at H
        have c8b0 : (t148.toList == t151.toList) = false := beq_eq_false_iff_ne.mpr c8
        have c8b1 : (t148.toList != t151.toList) = true := bne_iff_ne.mpr c8
        obtain rfl := Option.some.inj H
        go_enter Try.func4, Try.ntmps4
        go_wp2_with (first | ((with_reducible refine gate_callee (f := 10) rfl ?_); refine goesL_ (some 15) rfl rfl Try.func10 (by kernel_rfl) rfl #[.string a0] rfl (by (try simp only [List.map_toArray, List.map_cons, List.map_nil]); first | done | rfl | (simp only [List.length_drop, List.length_take]; rfl)) ?_; (with_reducible refine (seal_Read.calls k a0 t147 t148 t149 _ A5.out).mono ?_); rintro e w14 ⟨rfl, hb⟩; refine ⟨_, rfl, ?_⟩; have n0_ := Aside0.mk (below_step (by repeat (first | (with_reducible first | exact HB.out | apply below_alloc | apply pw_below_drewN | apply below_drew1) | exact HB.out)) hb); clear HB; have HB := n0_; clear n0_; (try clear hb); (try clear hb2); (try clear hk); (try clear hi)) | ((with_reducible refine gate_callee (f := 11) rfl ?_); refine goesL_ (some 21) rfl rfl Try.func11 (by kernel_rfl) rfl #[.string a0] rfl (by (try simp only [List.map_toArray, List.map_cons, List.map_nil]); first | done | rfl | (simp only [List.length_drop, List.length_take]; rfl)) ?_; (with_reducible refine (stylusref29_Read.calls k a0 t150 t151 t152 _ A6.out).mono ?_); rintro e w' ⟨rfl, ⟨nd, rfl⟩⟩; refine ⟨_, rfl, ?_⟩))
        go_ret
        exact ⟨by first | rfl | (simp [errW_none, errW_some] <;> rfl) | (simp [*, errW_none, errW_some] <;> rfl), by repeat (first | (with_reducible first | exact HB.out | apply below_alloc | apply pw_below_drewN | apply below_drew1) | exact HB.out)⟩
    · rw [if_neg c7] at H
      have c7b0 : (t147 == t150) = false := beq_eq_false_iff_ne.mpr c7
      have c7b1 : (t147 != t150) = true := bne_iff_ne.mpr c7
      obtain rfl := Option.some.inj H
      go_enter Try.func4, Try.ntmps4
      go_wp2_with (first | ((with_reducible refine gate_callee (f := 10) rfl ?_); refine goesL_ (some 15) rfl rfl Try.func10 (by kernel_rfl) rfl #[.string a0] rfl (by (try simp only [List.map_toArray, List.map_cons, List.map_nil]); first | done | rfl | (simp only [List.length_drop, List.length_take]; rfl)) ?_; (with_reducible refine (seal_Read.calls k a0 t147 t148 t149 _ A5.out).mono ?_); rintro e w15 ⟨rfl, hb⟩; refine ⟨_, rfl, ?_⟩; have n0_ := Aside0.mk (below_step (by repeat (first | (with_reducible first | exact HB.out | apply below_alloc | apply pw_below_drewN | apply below_drew1) | exact HB.out)) hb); clear HB; have HB := n0_; clear n0_; (try clear hb); (try clear hb2); (try clear hk); (try clear hi)) | ((with_reducible refine gate_callee (f := 11) rfl ?_); refine goesL_ (some 21) rfl rfl Try.func11 (by kernel_rfl) rfl #[.string a0] rfl (by (try simp only [List.map_toArray, List.map_cons, List.map_nil]); first | done | rfl | (simp only [List.length_drop, List.length_take]; rfl)) ?_; (with_reducible refine (stylusref29_Read.calls k a0 t150 t151 t152 _ A6.out).mono ?_); rintro e w' ⟨rfl, ⟨nd, rfl⟩⟩; refine ⟨_, rfl, ?_⟩))
      go_ret
      exact ⟨by first | rfl | (simp [errW_none, errW_some] <;> rfl) | (simp [*, errW_none, errW_some] <;> rfl), by repeat (first | (with_reducible first | exact HB.out | apply below_alloc | apply pw_below_drewN | apply below_drew1) | exact HB.out)⟩

/-- THE ONE PURE STATEMENT of styluslaw29_SealReads: yours. -/
def styluslaw29_SealReads.Pure : Prop := ∀ (a0 : ByteArray), a0.size ≤ 140737488351232 → ∃ k, styluslaw29_SealReads.f k a0 = some true
theorem styluslaw29_SealReads.walk (P : styluslaw29_SealReads.Pure) (a0 : ByteArray) (w : World) (w0 : a0.size ≤ 140737488351232) :
    Calls Try.prog 4 #[.string a0] w fun e w' => e = .returned (.bool true) ∧ Below w.heap.size w w' := by
  obtain ⟨k, h⟩ := P a0 w0
  refine (styluslaw29_SealReads.calls k a0 true w h).mono ?_
  rintro e w' ⟨rfl, hd⟩
  exact ⟨rfl, hd⟩

/-! ### styluslaw29_SealBack: function 5 -/
-- NEEDS stylus/styluslaw29.lives stylus/seal.Lay stylus/seal.Read
-- []byte(a), a byte of it another one, string(c); none stands for a false answer
def styluslaw29_SealBack.alter (s : ByteArray) (i : Int) (y : Int) : ByteArray := strOfNums ((bytesOf s).set i.toNat (Go.bits .xor .u8 (bt s i) y))
def styluslaw29_SealBack.tail (k : Nat) (b : ByteArray) : Option Bool :=
  (seal_Read.f k b).bind fun o => if o.2.2 = 0 then ((seal_Lay.f k o.1 o.2.1).bind fun c => if c.1 = b ∧ c.2 = 0 then (styluslaw29_lives.f k) else none) else (if o.1 = 0 ∧ o.2.1 = ⟨#[]⟩ then (styluslaw29_lives.f k) else none)
def styluslaw29_SealBack.left (k : Nat) (a b : ByteArray) (at_ : Int) : Option Bool :=
  if 0 ≤ at_ ∧ at_ < (a.size : Int) then ((seal_Read.f k (a.extract 0 at_.toNat)).bind fun o => if o.2.2 = 18 then (styluslaw29_SealBack.tail k b) else none) else (styluslaw29_SealBack.tail k b)
def styluslaw29_SealBack.other (k : Nat) (a s b : ByteArray) (at_ y : Int) : Option Bool :=
  if 0 ≤ at_ ∧ at_ < (s.size : Int) ∧ y ≠ 0 then (if 16 + at_ < (a.size : Int) then ((seal_Read.f k (styluslaw29_SealBack.alter a (16 + at_) y)).bind fun o => if o.2.2 = 19 then (styluslaw29_SealBack.left k a b at_) else none) else none) else (styluslaw29_SealBack.left k a b at_)
def styluslaw29_SealBack.f (k : Nat) (ep : Int) (s b : ByteArray) (at_ y : Int) : Option Bool :=
  if (s.size : Int) > 1000 ∨ (b.size : Int) > 1000 then (styluslaw29_lives.f k) else ((seal_Lay.f k ep s).bind fun o => if o.2 = 0 then
    (if o.1.size ≤ 100000 then ((seal_Read.f k o.1).bind fun p => (seal_Read.f k (o.1 ++ (⟨#[120]⟩ : ByteArray))).bind fun q => if p.1 = ep ∧ p.2.1 = s ∧ p.2.2 = 0 ∧ q.2.2 = 6 then (styluslaw29_SealBack.other k o.1 s b at_ y) else none) else none)
    else (styluslaw29_SealBack.tail k b))
theorem styluslaw29_SealBack.mono : ∀ a0 a1 a2 a3 a4 k, LeO (styluslaw29_SealBack.f k a0 a1 a2 a3 a4) (styluslaw29_SealBack.f (k + 1) a0 a1 a2 a3 a4) := by
  intro a0 a1 a2 a3 a4 k
  have ht : ∀ b, LeO (styluslaw29_SealBack.tail k b) (styluslaw29_SealBack.tail (k + 1) b) := fun b =>
    LeO.bind (seal_Read.mono _ _) fun _ => LeO.ite (LeO.bind (seal_Lay.mono _ _ _) fun _ => LeO.ite (styluslaw29_lives.mono _) (LeO.refl _)) (LeO.ite (styluslaw29_lives.mono _) (LeO.refl _))
  have hl : ∀ a b x, LeO (styluslaw29_SealBack.left k a b x) (styluslaw29_SealBack.left (k + 1) a b x) := fun a b x =>
    LeO.ite (LeO.bind (seal_Read.mono _ _) fun _ => LeO.ite (ht _) (LeO.refl _)) (ht _)
  have ho : ∀ a s b x y, LeO (styluslaw29_SealBack.other k a s b x y) (styluslaw29_SealBack.other (k + 1) a s b x y) := fun a s b x y =>
    LeO.ite (LeO.ite (LeO.bind (seal_Read.mono _ _) fun _ => LeO.ite (hl _ _ _) (LeO.refl _)) (LeO.refl _)) (hl _ _ _)
  unfold styluslaw29_SealBack.f
  exact LeO.ite (styluslaw29_lives.mono _) (LeO.bind (seal_Lay.mono _ _ _) fun _ => LeO.ite (LeO.ite (LeO.bind (seal_Read.mono _ _) fun _ => LeO.bind (seal_Read.mono _ _) fun _ => LeO.ite (ho _ _ _ _ _) (LeO.refl _)) (LeO.refl _)) (ht _))
theorem styluslaw29_SealBack.free (W : World) (e : TypeId) (s : ByteArray) (i : Nat) (h : i < s.size) : (Lib.bytesWorld W e s).frozen? ⟨W.heap.size, i, none⟩ = false := by
  simp only [World.frozen?, Lib.bytesWorld_at_new]
  have : ¬ (Lib.bytesCells W e s).size ≤ i := by
    simp only [Lib.bytesCells, Array.size_append, Array.size_map]
    have : s.data.size = s.size := rfl
    omega
  simp [this]
theorem styluslaw29_SealBack.at_ (W : World) (e : TypeId) (s : ByteArray) (i : Int) (h0 : 0 ≤ i) (h1 : i < (s.size : Int)) (hs : s.size ≤ 9223372036854775807) : (Lib.bytesWorld W e s).cell? ⟨W.heap.size, i.toNat, none⟩ = some (.int .u8 (bt s i)) := by
  obtain ⟨ad_, ea_, hc_⟩ := (bytes_reads W e s hs).at_ i h0 (by omega)
  obtain rfl := Option.some.inj ea_
  rwa [add_plain, rd_bytesOf] at hc_
theorem styluslaw29_SealBack.put {w : World} {b n : Nat} {xs : List Int} (h : ReadsInt w .u8 (some ⟨b, 0, none⟩) n xs) (i : Nat) (hi : i < n) (x : Int) : ReadsInt (w.setCell ⟨b, i, none⟩ (.int .u8 x)) .u8 (some ⟨b, 0, none⟩) n (xs.set i x) := by
  refine ⟨by rw [List.length_set]; exact h.1, h.2.1, fun hn => ⟨_, rfl, fun j hj => ?_⟩⟩
  obtain ⟨ad, e, hc⟩ := h.2.2 hn
  obtain rfl := Option.some.inj e
  have hcj := hc j hj
  rw [add_plain] at hcj ⊢
  have hl : xs.length = n := h.1
  by_cases hij : i = j
  · subst hij
    rw [World.cell?_setCell_same _ _ _ hcj]
    simp [List.getD_eq_getElem?_getD, hl, hi]
  · rw [World.cell?_setCell_other _ _ _ _ (by intro h; simp only [Addr.mk.injEq] at h; omega), hcj]
    simp [List.getD_eq_getElem?_getD, List.getElem?_set_ne hij]
set_option maxHeartbeats 8000000 in
set_option maxRecDepth 100000 in
theorem styluslaw29_SealBack.calls (k : Nat) (ep : Int) (s : ByteArray) (b : ByteArray) (at_ : Int) (y : Int) (r : Bool) (w : World) (h : styluslaw29_SealBack.f k ep s b at_ y = some r) :
    Calls Try.prog 5 #[.int .i64 ep, .agg #[.string s, .string b], .agg #[.int .i64 at_, .int .u8 y]] w fun e w' => e = .returned (.bool r) ∧ Below w.heap.size w w' := by
  have hu30 := Try.underlying30
  have hu32 := Try.underlying32
  unfold styluslaw29_SealBack.f at h
  have HH := Aside0.mk h
  clear h
  go_enter Try.func5, Try.ntmps5
  go_upto_region 1 with fail
  go_cut [7, 8, 9, 10] (fun v7 v8 v9 v10 wx => v7 = .string s ∧ v8 = .string b ∧ v9 = .int .i64 at_ ∧ v10 = .int .u8 y ∧ Aside0 (Below w.heap.size w wx))
  case first =>
    go_quiet (fail)
    go_wp2_with fail
    go_meet
    exact ⟨rfl, rfl, rfl, rfl, ⟨pw_below_drewN (below_alloc (below_alloc (Below.refl _ _) _) _) _⟩⟩
  obtain ⟨rfl, rfl, rfl, rfl, BK⟩ := hcut
  have h := HH.out
  clear HH
  by_cases G : (s.size : Int) > 1000 ∨ (b.size : Int) > 1000
  · rw [if_pos G] at h
    have HH := Aside0.mk h
    clear h
    go_upto_region 2 with fail
    go_cut [46] (fun v46 wx => v46 = .bool true ∧ Aside0 (Below w.heap.size w wx))
    case first =>
      by_cases g1 : (s.size : Int) > 1000
      · have g1b : decide (1000 < (s.size : Int)) = true := decide_eq_true g1
        have g1c : decide (1000 < s.size) = true := decide_eq_true (by omega)
        clear G g1
        go_wp2_with fail
        go_meet
        exact ⟨rfl, BK⟩
      have g1b : decide (1000 < (s.size : Int)) = false := decide_eq_false g1
      have g1c : decide (1000 < s.size) = false := decide_eq_false (by omega)
      have g2b : decide (1000 < (b.size : Int)) = true := decide_eq_true (by omega)
      have g2c : decide (1000 < b.size) = true := decide_eq_true (by omega)
      clear G g1
      go_wp2_with fail
      go_meet
      exact ⟨rfl, BK⟩
    clear BK
    obtain ⟨rfl, BK⟩ := hcut
    go_wp2_with (go_at_call 7; (with_reducible refine (styluslaw29_lives.calls k r _ HH.out).mono ?_); rintro e w2 ⟨rfl, hb1⟩)
    go_ret
    exact ⟨rfl, below_step BK.out hb1⟩
  rw [if_neg G] at h
  have HH := Aside0.mk h
  have g1b : decide (1000 < (s.size : Int)) = false := decide_eq_false (by omega)
  have g1c : decide (1000 < s.size) = false := decide_eq_false (by omega)
  have g2b : decide (1000 < (b.size : Int)) = false := decide_eq_false (by omega)
  have g2c : decide (1000 < b.size) = false := decide_eq_false (by omega)
  have z1 : s.size ≤ 1000 := by omega
  have Z1 := Aside0.mk z1
  clear h G z1
  go_upto_region 2 with fail
  go_cut [46] (fun v46 wx => v46 = .bool false ∧ Aside0 (Below w.heap.size w wx))
  case first =>
    go_wp2_with fail
    go_meet
    exact ⟨rfl, BK⟩
  clear BK g1b g1c g2b g2c
  obtain ⟨rfl, BK⟩ := hcut
  have h := HH.out
  clear HH
  replace h := Option.bind_eq_some_iff.mp h
  obtain ⟨⟨a, c⟩, A1, h⟩ := h
  simp only at h
  have HA1 := Aside0.mk A1
  have HH := Aside0.mk h
  clear A1 h
  go_upto_region 5 with (go_at_call 8; (with_reducible refine (seal_Lay.calls k ep s a c _ HA1.out).mono ?_); rintro e w2 ⟨rfl, hb1⟩; have KB := Aside0.mk (below_step BK.out hb1); clear hb1)
  clear BK
  go_cut [55] (fun v55 wx => v55 = .bool (c == 0) ∧ Aside0 (Below w.heap.size w wx))
  case first =>
    go_wp2_with fail
    go_meet
    exact ⟨rfl, KB⟩
  clear KB
  obtain ⟨rfl, KB⟩ := hcut
  go_upto_if 55 with (fail)
  go_cut [] (fun wx => Aside0 (styluslaw29_SealBack.tail k b = some r ∧ Below w.heap.size w wx))
  case first =>
    have h := HH.out
    clear HH
    by_cases c0 : c = 0
    · subst c0
      rw [if_pos rfl] at h
      rw [show ((0 : Int) == 0) = true from rfl]
      by_cases z3 : a.size ≤ 100000
      rotate_left
      · rw [if_neg z3] at h
        cases h
      rw [if_pos z3] at h
      replace h := Option.bind_eq_some_iff.mp h
      obtain ⟨⟨p1, p2, p3⟩, A2, h⟩ := h
      replace h := Option.bind_eq_some_iff.mp h
      obtain ⟨⟨q1, q2, q3⟩, A3, h⟩ := h
      simp only at h
      by_cases c1 : p1 = ep ∧ p2 = s ∧ p3 = 0 ∧ q3 = 6
      rotate_left
      · rw [if_neg c1] at h
        cases h
      rw [if_pos c1] at h
      obtain ⟨rfl, rfl, rfl, rfl⟩ := c1
      have HA2 := Aside0.mk A2
      have HA3 := Aside0.mk A3
      have HH := Aside0.mk h
      have lim : (9223372036854775807 < a.size + 1) = False := eq_false (by omega)
      have Z3 := Aside0.mk z3
      clear h A2 A3 z3
      go_upto_region 8 with (first
        | (go_at_call 10; (with_reducible refine (seal_Read.calls k _ _ _ _ _ HA2.out).mono ?_); rintro e w3 ⟨rfl, hb3⟩; have KB3 := Aside0.mk (below_step KB.out hb3); clear hb3)
        | (go_at_call 10; (with_reducible refine (seal_Read.calls k _ _ _ _ _ HA3.out).mono ?_); rintro e w4 ⟨rfl, hb4⟩; have KB4 := Aside0.mk (below_step KB3.out hb4); clear hb4))
      clear KB KB3 lim
      go_cut [84] (fun v84 wx => v84 = .bool false ∧ Aside0 (Below w.heap.size w wx))
      case first =>
        go_wp2_with fail
        go_meet
        exact ⟨rfl, KB4⟩
      clear KB4
      obtain ⟨rfl, KB⟩ := hcut
      go_upto_region 10 with fail
      go_cut [96] (fun v96 wx => v96 = .bool (decide (0 ≤ at_ ∧ at_ < (p2.size : Int) ∧ y ≠ 0)) ∧ Aside0 (Below w.heap.size w wx))
      case first =>
        by_cases d0 : 0 ≤ at_
        · have d0b : decide (0 ≤ at_) = true := decide_eq_true d0
          by_cases d1 : at_ < (p2.size : Int)
          · have d1b : decide (at_ < (p2.size : Int)) = true := decide_eq_true d1
            by_cases d2 : y = 0
            · have d2b : (y != 0) = false := by rw [d2]; rfl
              have e_ : decide (0 ≤ at_ ∧ at_ < (p2.size : Int) ∧ y ≠ 0) = false := decide_eq_false (fun z => z.2.2 d2)
              have E_ := Aside0.mk e_
              clear d0 d1 d2 e_
              go_wp2_with fail
              go_meet
              exact ⟨by rw [E_.out], KB⟩
            · have d2b : (y != 0) = true := bne_iff_ne.mpr d2
              have e_ : decide (0 ≤ at_ ∧ at_ < (p2.size : Int) ∧ y ≠ 0) = true := decide_eq_true ⟨d0, d1, d2⟩
              have E_ := Aside0.mk e_
              clear d0 d1 d2 e_
              go_wp2_with fail
              go_meet
              exact ⟨by rw [E_.out], KB⟩
          · have d1b : decide (at_ < (p2.size : Int)) = false := decide_eq_false d1
            have e_ : decide (0 ≤ at_ ∧ at_ < (p2.size : Int) ∧ y ≠ 0) = false := decide_eq_false (fun z => d1 z.2.1)
            have E_ := Aside0.mk e_
            clear d0 d1 e_
            go_wp2_with fail
            go_meet
            exact ⟨by rw [E_.out], KB⟩
        · have d0b : decide (0 ≤ at_) = false := decide_eq_false d0
          have e_ : decide (0 ≤ at_ ∧ at_ < (p2.size : Int) ∧ y ≠ 0) = false := decide_eq_false (fun z => d0 z.1)
          have E_ := Aside0.mk e_
          clear d0 e_
          go_wp2_with fail
          go_meet
          exact ⟨by rw [E_.out], KB⟩
      clear KB
      obtain ⟨rfl, KB⟩ := hcut
      go_upto_if 96 with (fail)
      go_cut [] (fun wx => Aside0 (styluslaw29_SealBack.left k a b at_ = some r ∧ Below w.heap.size w wx))
      case first =>
        have h := HH.out
        clear HH
        unfold styluslaw29_SealBack.other at h
        by_cases L : 0 ≤ at_ ∧ at_ < (p2.size : Int) ∧ y ≠ 0
        · rw [if_pos L] at h
          have lb : decide (0 ≤ at_ ∧ at_ < (p2.size : Int) ∧ y ≠ 0) = true := decide_eq_true L
          rw [lb]
          by_cases z4 : 16 + at_ < (a.size : Int)
          rotate_left
          · rw [if_neg z4] at h
            cases h
          rw [if_pos z4] at h
          replace h := Option.bind_eq_some_iff.mp h
          obtain ⟨⟨o1, o2, o3⟩, A4, h⟩ := h
          simp only at h
          by_cases c3 : o3 = 19
          rotate_left
          · rw [if_neg c3] at h
            cases h
          rw [if_pos c3] at h
          subst c3
          have q0 := L.1
          have z3 := Z3.out
          have i0 : (16 + at_).toNat < a.size := by omega
          have i1 : 0 ≤ 16 + at_ := by omega
          have HL := Aside0.mk h
          unfold styluslaw29_SealBack.alter at A4
          have HA4 := Aside0.mk A4
          have I0 := Aside0.mk i0
          have I1 := Aside0.mk i1
          have I2 := Aside0.mk z4
          have Q0 := Aside0.mk q0
          have kb := fun W => print_bytes (P := Try.prog) 9 33 5 Try.underlying9 Try.underlying33 Try.underlying5 a W
          clear lb L h A4 q0 z3 i0 i1 z4
          go_upto_region 11 with fail
          go_cut [19] (fun v19 wx => ∃ b c, v19 = .slice (some ⟨b, 0, none⟩) a.size c ∧ wx.cell? ⟨b, (16 + at_).toNat, none⟩ = some (.int .u8 (bt a (16 + at_))) ∧ wx.frozen? ⟨b, (16 + at_).toNat, none⟩ = false ∧ Aside0 (w.heap.size ≤ b ∧ ReadsInt wx .u8 (some ⟨b, 0, none⟩) a.size (bytesOf a) ∧ Below w.heap.size w wx))
          case first =>
            go_wp2_with fail
            go_meet
            exact ⟨_, _, rfl, styluslaw29_SealBack.at_ _ _ _ _ I1.out I2.out (Nat.le_trans Z3.out (by decide)), styluslaw29_SealBack.free _ _ _ _ I0.out, ⟨KB.out.size, bytes_reads _ _ a (Nat.le_trans Z3.out (by decide)), bytes_below KB.out KB.out.size _ _⟩⟩
          clear kb KB
          obtain ⟨bq, cp, rfl, hcl, hfr, HB⟩ := hcut
          have i0 := I0.out
          have i1 := I1.out
          have i2 := I2.out
          have q0 := Q0.out
          have z3 := Z3.out
          go_upto_region 12 with fail
          go_cut [] (fun wx => Aside0 (ReadsInt wx .u8 (some ⟨bq, 0, none⟩) a.size ((bytesOf a).set (16 + at_).toNat (Go.bits .xor .u8 (bt a (16 + at_)) y)) ∧ Below w.heap.size w wx))
          case first =>
            go_wp2_with fail
            go_meet
            exact ⟨⟨styluslaw29_SealBack.put HB.out.2.1 _ i0 _, HB.out.2.2.setCell HB.out.1 _⟩⟩
          clear hcl hfr HB i0 i1 i2 q0 z3
          have hst := string_of_reads (P := Try.prog) (c := cp) Try.underlying33 Try.underlying5 Try.underlying9 hcut.out.1
          have HB := Aside0.mk hcut.out.2
          clear hcut
          go_wp2_with (go_at_call 10; (with_reducible refine (seal_Read.calls k _ _ _ _ _ HA4.out).mono ?_); rintro e w3 ⟨rfl, hb3⟩)
          go_meet
          exact ⟨⟨HL.out, below_step HB.out hb3⟩⟩
        · rw [if_neg L] at h
          have lb : decide (0 ≤ at_ ∧ at_ < (p2.size : Int) ∧ y ≠ 0) = false := decide_eq_false L
          rw [lb]
          have HL := Aside0.mk h
          clear lb L h
          go_wp2_with fail
          go_meet
          exact ⟨⟨HL.out, KB.out⟩⟩
      clear KB HH
      have h := hcut.out.1
      have KB := Aside0.mk hcut.out.2
      clear hcut
      unfold styluslaw29_SealBack.left at h
      by_cases L : 0 ≤ at_ ∧ at_ < (a.size : Int)
      · rw [if_pos L] at h
        replace h := Option.bind_eq_some_iff.mp h
        obtain ⟨⟨o1, o2, o3⟩, A4, h⟩ := h
        simp only at h
        by_cases c3 : o3 = 18
        rotate_left
        · rw [if_neg c3] at h
          cases h
        rw [if_pos c3] at h
        subst c3
        have HL := Aside0.mk h
        have HA4 := Aside0.mk A4
        have d0b : decide (0 ≤ at_) = true := decide_eq_true L.1
        have d1b : decide (at_ < (a.size : Int)) = true := decide_eq_true L.2
        have q0 : (0 ≤ at_) = True := eq_true L.1
        have q1 : (at_ ≤ (a.size : Int)) = True := eq_true (by omega)
        clear L h A4
        go_wp2_with (go_at_call 10; (with_reducible refine (seal_Read.calls k (a.extract 0 at_.toNat) _ _ _ _ HA4.out).mono ?_); rintro e w3 ⟨rfl, hb3⟩)
        go_meet
        exact ⟨⟨HL.out, below_step KB.out hb3⟩⟩
      · rw [if_neg L] at h
        have HL := Aside0.mk h
        by_cases d0 : 0 ≤ at_
        · have d0b : decide (0 ≤ at_) = true := decide_eq_true d0
          have d1b : decide (at_ < (a.size : Int)) = false := decide_eq_false (fun z => L ⟨d0, z⟩)
          clear L h d0
          go_wp2_with fail
          go_meet
          exact ⟨⟨HL.out, KB.out⟩⟩
        · have d0b : decide (0 ≤ at_) = false := decide_eq_false d0
          clear L h d0
          go_wp2_with fail
          go_meet
          exact ⟨⟨HL.out, KB.out⟩⟩
    · rw [if_neg c0] at h
      have HH := Aside0.mk h
      clear h
      rw [beq_eq_false_iff_ne.mpr c0]
      go_wp2_with fail
      go_meet
      exact ⟨⟨HH.out, KB.out⟩⟩
  clear HH KB
  have h := hcut.out.1
  have KB := Aside0.mk hcut.out.2
  clear hcut
  unfold styluslaw29_SealBack.tail at h
  replace h := Option.bind_eq_some_iff.mp h
  obtain ⟨⟨o1, o2, o3⟩, A4, h⟩ := h
  simp only at h
  have HA4 := Aside0.mk A4
  clear A4
  by_cases c3 : o3 = 0
  · rw [if_pos c3] at h
    subst c3
    replace h := Option.bind_eq_some_iff.mp h
    obtain ⟨⟨l1, l2⟩, A5, h⟩ := h
    simp only at h
    by_cases c4 : l1 = b ∧ l2 = 0
    rotate_left
    · rw [if_neg c4] at h
      cases h
    rw [if_pos c4] at h
    obtain ⟨rfl, rfl⟩ := c4
    have HA5 := Aside0.mk A5
    have HL := Aside0.mk h
    clear A5 h
    go_wp2_with (first
      | (go_at_call 10; (with_reducible refine (seal_Read.calls k _ _ _ _ _ HA4.out).mono ?_); rintro e w3 ⟨rfl, hb3⟩)
      | (go_at_call 8; (with_reducible refine (seal_Lay.calls k _ _ _ _ _ HA5.out).mono ?_); rintro e w4 ⟨rfl, hb4⟩)
      | (go_at_call 7; (with_reducible refine (styluslaw29_lives.calls k r _ HL.out).mono ?_); rintro e w5 ⟨rfl, hb5⟩))
    go_ret
    exact ⟨rfl, below_step (below_step (below_step KB.out hb3) hb4) hb5⟩
  · rw [if_neg c3] at h
    by_cases c4 : o1 = 0 ∧ o2 = ⟨#[]⟩
    rotate_left
    · rw [if_neg c4] at h
      cases h
    rw [if_pos c4] at h
    obtain ⟨rfl, rfl⟩ := c4
    have HL := Aside0.mk h
    have c3b : (o3 != 0) = true := bne_iff_ne.mpr c3
    clear h c3
    go_wp2_with (first
      | (go_at_call 10; (with_reducible refine (seal_Read.calls k _ _ _ _ _ HA4.out).mono ?_); rintro e w3 ⟨rfl, hb3⟩)
      | (go_at_call 7; (with_reducible refine (styluslaw29_lives.calls k r _ HL.out).mono ?_); rintro e w5 ⟨rfl, hb5⟩))
    go_ret
    exact ⟨rfl, below_step (below_step KB.out hb3) hb5⟩


/-- THE ONE PURE STATEMENT of styluslaw29_SealBack. -/
def styluslaw29_SealBack.Pure : Prop := ∀ (x0 : Int) (x1 : S30) (x2 : S32), (Lit.int .i64 x0).wf = true → B30 x1 → B32 x2 → ∃ k, styluslaw29_SealBack.f k x0 x1.f0 x1.f1 x2.f0 x2.f1 = some true
/-! ### styluslaw29_SealLong: function 6 -/
def styluslaw29_SealLong.j0 : Nat → Int → Bool → Option (Bool)
  | 0, _, _ => none
  | k + 1, x0, x10 => if x10 = true then ((styluslaw29_lives.f k).bind fun t154 => (some t154)) else (if 0 ≤ (wrap64 (131072 + x0)) then (if (wrap64 (131072 + x0) : Int).toNat ≤ 281474976710656 then ((seal_Lay.f k 0 (strOfNums (List.replicate (wrap64 (131072 + x0) : Int).toNat 0))).bind fun bt158 => (if x0 > 0 then (if bt158.1.toList = ([] : List UInt8) then (if bt158.2 = 6 then ((styluslaw29_lives.f k).bind fun t160 => (some t160)) else (some false)) else (some false)) else (if (bt158.1.size : Int) = 131088 then (if bt158.2 = 0 then ((styluslaw29_lives.f k).bind fun t161 => (some t161)) else (some false)) else (some false)))) else (none)) else (none))
def styluslaw29_SealLong.f (k : Nat) (a0 : Int) : Option (Bool) := if a0 < 0 then (styluslaw29_SealLong.j0 k a0 true) else (styluslaw29_SealLong.j0 k a0 (decide (a0 > 2)))
theorem styluslaw29_SealLong.mono_l : ∀ k, (∀ y0 y1, LeO (styluslaw29_SealLong.j0 k y0 y1) (styluslaw29_SealLong.j0 (k + 1) y0 y1))
  | 0 => fun _ _ r h => by simp [styluslaw29_SealLong.j0] at h
  | k + 1 => by
    have ih0 := styluslaw29_SealLong.mono_l k
    · intro y0 y1
      unfold styluslaw29_SealLong.j0
      repeat' first
      | (with_reducible exact ih0 _ _)
      | (with_reducible exact seal_Lay.mono _ _ _)
      | (with_reducible exact styluslaw29_lives.mono _)
      | (with_reducible exact LeO.refl _)
      | (with_reducible exact LeO.none _)
      | (with_reducible refine LeO.ite ?_ ?_)
      | (with_reducible refine LeO.bind ?_ (fun _ => ?_))
      | exact ih0 _ _
      | exact seal_Lay.mono _ _ _
      | exact styluslaw29_lives.mono _
      | exact LeO.none _
      | refine LeO.ite ?_ ?_
      | refine LeO.bind ?_ (fun _ => ?_)
theorem styluslaw29_SealLong.mono : ∀ a0 k, LeO (styluslaw29_SealLong.f k a0) (styluslaw29_SealLong.f (k + 1) a0) := by
  intro a0 k
  have ih0 := styluslaw29_SealLong.mono_l k
  unfold styluslaw29_SealLong.f
  repeat' first
      | (with_reducible exact ih0 _ _)
      | (with_reducible exact seal_Lay.mono _ _ _)
      | (with_reducible exact styluslaw29_lives.mono _)
      | (with_reducible exact LeO.refl _)
      | (with_reducible exact LeO.none _)
      | (with_reducible refine LeO.ite ?_ ?_)
      | (with_reducible refine LeO.bind ?_ (fun _ => ?_))
      | exact ih0 _ _
      | exact seal_Lay.mono _ _ _
      | exact styluslaw29_lives.mono _
      | exact LeO.none _
      | refine LeO.ite ?_ ?_
      | refine LeO.bind ?_ (fun _ => ?_)
set_option maxHeartbeats 8000000 in
set_option maxRecDepth 100000 in
theorem styluslaw29_SealLong.calls (k : Nat) (a0 : Int) (r : Bool) (w : World) (h : styluslaw29_SealLong.f k a0 = some r) :
    Calls Try.prog 6 #[.int .i64 a0] w fun e w' => e = .returned (.bool r) ∧ Below w.heap.size w w' := by
  have HB := Aside0.mk (Below.refl w.heap.size w)
  have H : (if a0 < 0 then (styluslaw29_SealLong.j0 k a0 true) else (styluslaw29_SealLong.j0 k a0 (decide (a0 > 2)))) = some r := h
  clear h
  have HC2 := Aside0.mk H
  clear H
  go_enter Try.func6, Try.ntmps6
  go_upto_region 1 with (fail)
  go_cut [10] (fun v10 wc => ∃ (kq : Nat) (x10_1 : Bool), v10 = .bool x10_1 ∧ Aside0 (styluslaw29_SealLong.j0 kq a0 x10_1 = some r) ∧ Aside0 (kq ≤ k) ∧ Aside0 (Below w.heap.size w wc))
  case first =>
    have H := HC2.out
    clear HC2
    by_cases c3 : a0 < 0
    · rw [if_pos c3] at H
      have c3b0 : decide (a0 < 0) = true := decide_eq_true c3
      clear c3
      (first | rw [c3b0] | (simp only [i64_w, i32_w]; rw [c3b0]) | skip)
      have H' := Aside0.mk H
      clear H
      go_wp2
      go_meet
      case rel => exact ⟨_, (true), (by first | rfl | (simp; done) | (simp [*]; done)), H', ⟨by first | omega | exact Nat.le_refl _⟩, ⟨by repeat (first | (with_reducible first | exact HB.out | apply below_alloc | apply pw_below_drewN | apply below_drew1) | exact HB.out)⟩⟩
    · rw [if_neg c3] at H
      have c3b0 : decide (a0 < 0) = false := decide_eq_false c3
      clear c3
      (first | rw [c3b0] | (simp only [i64_w, i32_w]; rw [c3b0]) | skip)
      have H' := Aside0.mk H
      clear H
      go_wp2
      go_meet
      case rel => exact ⟨_, (decide (a0 > 2)), (by first | rfl | (simp; done) | (simp [*]; done)), H', ⟨by first | omega | exact Nat.le_refl _⟩, ⟨by repeat (first | (with_reducible first | exact HB.out | apply below_alloc | apply pw_below_drewN | apply below_drew1) | exact HB.out)⟩⟩
  case rest =>
    clear HC2
    try clear p2
    try clear c3
    try clear c3b0
    obtain ⟨kq, x10_1, rfl, HA, HJ1, HB⟩ := hcut
    cases kq with
    | zero => exact absurd HA.out (by simp [styluslaw29_SealLong.j0])
    | succ kj1 =>
      have H := HA.out
      clear HA
      simp only [styluslaw29_SealLong.j0] at H
      by_cases c4 : x10_1 = true
      · subst c4
        have H1 : ((styluslaw29_lives.f kj1).bind fun t154 => (some t154)) = some r := by rw [if_pos rfl] at H; exact H
        clear H
        have H := H1
        clear H1
        replace H := Option.bind_eq_some_iff.mp H
        obtain ⟨t154, A50, H⟩ := H
        replace H : (some t154) = some r := H
        have A5 := Aside0.mk A50
        clear A50
        obtain rfl := Option.some.inj H
        go_wp2_with (first | ((with_reducible refine gate_callee (f := 7) rfl ?_); refine goesL_ (some 11) rfl rfl Try.func7 (by kernel_rfl) rfl #[] rfl (by (try simp only [List.map_toArray, List.map_cons, List.map_nil]); first | done | rfl | (simp only [List.length_drop, List.length_take]; rfl)) ?_; (with_reducible refine (styluslaw29_lives.calls kj1  t154 _ A5.out).mono ?_); rintro e w6 ⟨rfl, hb⟩; refine ⟨_, rfl, ?_⟩; have n0_ := Aside0.mk (below_step (by repeat (first | (with_reducible first | exact HB.out | apply below_alloc | apply pw_below_drewN | apply below_drew1) | exact HB.out)) hb); clear HB; have HB := n0_; clear n0_; (try clear hb); (try clear hb2); (try clear hk); (try clear hi)))
        go_ret
        exact ⟨by first | rfl | (simp [errW_none, errW_some] <;> rfl) | (simp [*, errW_none, errW_some] <;> rfl), by repeat (first | (with_reducible first | exact HB.out | apply below_alloc | apply pw_below_drewN | apply below_drew1) | exact HB.out)⟩
      · replace c4 := Bool.eq_false_iff.mpr c4
        subst c4
        have H1 : (if 0 ≤ (wrap64 (131072 + a0)) then (if (wrap64 (131072 + a0) : Int).toNat ≤ 281474976710656 then ((seal_Lay.f kj1 0 (strOfNums (List.replicate (wrap64 (131072 + a0) : Int).toNat 0))).bind fun bt158 => (if a0 > 0 then (if bt158.1.toList = ([] : List UInt8) then (if bt158.2 = 6 then ((styluslaw29_lives.f kj1).bind fun t160 => (some t160)) else (some false)) else (some false)) else (if (bt158.1.size : Int) = 131088 then (if bt158.2 = 0 then ((styluslaw29_lives.f kj1).bind fun t161 => (some t161)) else (some false)) else (some false)))) else (none)) else (none)) = some r := by rw [if_neg (show ¬ (false = true) by decide)] at H; exact H
        clear H
        have H := H1
        clear H1
        obtain ⟨ji7, hji7⟩ : ∃ j_ : Int, (wrap64 (131072 + a0)) = j_ := ⟨_, rfl⟩
        replace H : (if 0 ≤ (ji7) then (if (ji7 : Int).toNat ≤ 281474976710656 then ((seal_Lay.f kj1 0 (strOfNums (List.replicate (ji7 : Int).toNat 0))).bind fun bt158 => (if a0 > 0 then (if bt158.1.toList = ([] : List UInt8) then (if bt158.2 = 6 then ((styluslaw29_lives.f kj1).bind fun t160 => (some t160)) else (some false)) else (some false)) else (if (bt158.1.size : Int) = 131088 then (if bt158.2 = 0 then ((styluslaw29_lives.f kj1).bind fun t161 => (some t161)) else (some false)) else (some false)))) else (none)) else (none)) = some r := by first | (rw [hji7] at H; exact H) | (simp only [hji7] at H ⊢; exact H)
        have hji7w : (IntKind.i64.wrap (131072 + a0)) = ji7 := (i64_w _).trans hji7
        by_cases c8 : 0 ≤ (ji7)
        · rw [if_pos c8] at H
          have c8b0 := eq_true c8
          have c8b1 : decide (0 ≤ (ji7)) = true := decide_eq_true c8
          clear c8
          by_cases c9 : (ji7 : Int).toNat ≤ 281474976710656
          · rw [if_pos c9] at H
            have c9b0 := eq_true c9
            have c9b1 : decide ((ji7 : Int).toNat ≤ 281474976710656) = true := decide_eq_true c9
            clear c9
            obtain ⟨y155, hy155⟩ : ∃ y_ : List Int, y_ = (List.replicate (ji7 : Int).toNat 0) := ⟨_, rfl⟩
            replace H : ((seal_Lay.f kj1 0 (strOfNums y155)).bind fun bt158 => (if a0 > 0 then (if bt158.1.toList = ([] : List UInt8) then (if bt158.2 = 6 then ((styluslaw29_lives.f kj1).bind fun t160 => (some t160)) else (some false)) else (some false)) else (if (bt158.1.size : Int) = 131088 then (if bt158.2 = 0 then ((styluslaw29_lives.f kj1).bind fun t161 => (some t161)) else (some false)) else (some false)))) = some r := by first | (rw [hy155]; with_reducible exact H) | (have H2_ := (Option.bind_some _ _).symm.trans H; rw [hy155]; with_reducible exact H2_) | (have H2_ := (Option.bind_some _ _).symm.trans H; with_reducible exact H2_) | with_reducible exact H | (rw [hy155]; exact H) | exact H
            have Ny155 := Aside0.mk hy155
            clear hy155
            replace H := Option.bind_eq_some_iff.mp H
            obtain ⟨⟨t158, t159⟩, A100, H⟩ := H
            replace H : (if a0 > 0 then (if t158.toList = ([] : List UInt8) then (if t159 = 6 then ((styluslaw29_lives.f kj1).bind fun t160 => (some t160)) else (some false)) else (some false)) else (if (t158.size : Int) = 131088 then (if t159 = 0 then ((styluslaw29_lives.f kj1).bind fun t161 => (some t161)) else (some false)) else (some false))) = some r := H
            have A10 := Aside0.mk A100
            clear A100
            by_cases c11 : a0 > 0
            · rw [if_pos c11] at H
              have c11b0 : decide (0 < a0) = true := decide_eq_true c11
              clear c11
              by_cases c12 : t158.toList = ([] : List UInt8)
              · rw [if_pos c12] at H
                have c12b0 : (t158.toList == ([] : List UInt8)) = true := beq_iff_eq.mpr c12
                have c12b1 : (t158.toList != ([] : List UInt8)) = false := bne_eq_false_iff_eq.mpr c12
                clear c12
                by_cases c13 : t159 = 6
                · rw [if_pos c13] at H
                  have c13b0 : (t159 == 6) = true := beq_iff_eq.mpr c13
                  have c13b1 : (t159 != 6) = false := bne_eq_false_iff_eq.mpr c13
                  clear c13
                  replace H := Option.bind_eq_some_iff.mp H
                  obtain ⟨t160, A140, H⟩ := H
                  replace H : (some t160) = some r := H
                  have A14 := Aside0.mk A140
                  clear A140
                  obtain rfl := Option.some.inj H
                  go_wp2_with (first | ((with_reducible refine gate_dst (N := 15) rfl ?_); refine Kd.R_make (Kd.int .u8) _ 5 rfl (N := 15) rfl 33 _ _ rfl ji7 rfl rfl Try.underlying33 (.int .u8 0) 1 info5 rfl (by decide) (by omega) 0 (ok := fun _ => True) (okp := fun _ => True) rfl (fun _ hk => hk) trivial (of_decide_eq_true (by first | (with_reducible assumption) | assumption)) (Nat.le_trans (Nat.mul_le_mul_right _ (of_decide_eq_true (by first | (with_reducible assumption) | assumption) : ji7.toNat ≤ 281474976710656)) (by omega)) (Below.refl _ _) (Nat.le_refl _) ?_; intro v156 w15 ho16 hb hg_ hnew_; clear hg_ hnew_; (first | rw [← Ny155.out] at ho16 | (simp only [Int.reduceToNat] at ho16; rw [← Ny155.out] at ho16)); have n0_ := Aside0.mk (Kd.R_lower ho16 (below_size (by repeat (first | (with_reducible first | exact HB.out | apply below_alloc | apply pw_below_drewN | apply below_drew1) | exact HB.out)))); have n1_ := Aside0.mk (below_step (by repeat (first | (with_reducible first | exact HB.out | apply below_alloc | apply pw_below_drewN | apply below_drew1) | exact HB.out)) hb); clear HB; have HO157 := n0_; have HB := n1_; clear n0_ n1_; clear hb ho16; have hcv17 := own_string (P := Try.prog) Try.underlying33 Try.underlying5 Try.underlying9 (Kd.own_of_R HO157.out)) | ((with_reducible refine gate_callee (f := 8) rfl ?_); refine goesL_ (some 17) rfl rfl Try.func8 (by kernel_rfl) rfl #[.int .i64 0, .string (strOfNums y155)] rfl (by (try simp only [List.map_toArray, List.map_cons, List.map_nil]); first | done | rfl | (simp only [List.length_drop, List.length_take]; rfl)) ?_; (with_reducible refine (seal_Lay.calls kj1 0 (strOfNums y155) t158 t159 _ A10.out).mono ?_); rintro e w18 ⟨rfl, hb⟩; refine ⟨_, rfl, ?_⟩; have n0_ := Aside0.mk (Kd.R_below (by (with_reducible repeat (first | apply Kd.R_alloc | apply Kd.R_drewN | apply Kd.R_drew)); exact HO157.out) hb); have n1_ := Aside0.mk (below_step (by repeat (first | (with_reducible first | exact HB.out | apply below_alloc | apply pw_below_drewN | apply below_drew1) | exact HB.out)) hb); clear HO157; clear HB; have HO157 := n0_; have HB := n1_; clear n0_ n1_; (try clear hb); (try clear hb2); (try clear hk); (try clear hi)) | (go_at_call 7; (with_reducible refine (styluslaw29_lives.calls kj1  t160 _ A14.out).mono ?_); rintro e w19 ⟨rfl, hb⟩; have n0_ := Aside0.mk (Kd.R_below (by (with_reducible repeat (first | apply Kd.R_alloc | apply Kd.R_drewN | apply Kd.R_drew)); exact HO157.out) hb); have n1_ := Aside0.mk (below_step (by repeat (first | (with_reducible first | exact HB.out | apply below_alloc | apply pw_below_drewN | apply below_drew1) | exact HB.out)) hb); clear HO157; clear HB; have HO157 := n0_; have HB := n1_; clear n0_ n1_; (try clear hb); (try clear hb2); (try clear hk); (try clear hi)))
                  go_ret
                  exact ⟨by first | rfl | (simp [errW_none, errW_some] <;> rfl) | (simp only [← hji7]; first | rfl | (simp [errW_none, errW_some] <;> rfl)) | (simp [*, errW_none, errW_some] <;> rfl), by repeat (first | (with_reducible first | exact HB.out | apply below_alloc | apply pw_below_drewN | apply below_drew1) | exact HB.out)⟩
                · rw [if_neg c13] at H
                  have c13b0 : (t159 == 6) = false := beq_eq_false_iff_ne.mpr c13
                  have c13b1 : (t159 != 6) = true := bne_iff_ne.mpr c13
                  obtain rfl := Option.some.inj H
                  go_wp2_with (first | ((with_reducible refine gate_dst (N := 15) rfl ?_); refine Kd.R_make (Kd.int .u8) _ 5 rfl (N := 15) rfl 33 _ _ rfl ji7 rfl rfl Try.underlying33 (.int .u8 0) 1 info5 rfl (by decide) (by omega) 0 (ok := fun _ => True) (okp := fun _ => True) rfl (fun _ hk => hk) trivial (of_decide_eq_true (by first | (with_reducible assumption) | assumption)) (Nat.le_trans (Nat.mul_le_mul_right _ (of_decide_eq_true (by first | (with_reducible assumption) | assumption) : ji7.toNat ≤ 281474976710656)) (by omega)) (Below.refl _ _) (Nat.le_refl _) ?_; intro v156 w20 ho21 hb hg_ hnew_; clear hg_ hnew_; (first | rw [← Ny155.out] at ho21 | (simp only [Int.reduceToNat] at ho21; rw [← Ny155.out] at ho21)); have n0_ := Aside0.mk (Kd.R_lower ho21 (below_size (by repeat (first | (with_reducible first | exact HB.out | apply below_alloc | apply pw_below_drewN | apply below_drew1) | exact HB.out)))); have n1_ := Aside0.mk (below_step (by repeat (first | (with_reducible first | exact HB.out | apply below_alloc | apply pw_below_drewN | apply below_drew1) | exact HB.out)) hb); clear HB; have HO157 := n0_; have HB := n1_; clear n0_ n1_; clear hb ho21; have hcv22 := own_string (P := Try.prog) Try.underlying33 Try.underlying5 Try.underlying9 (Kd.own_of_R HO157.out)) | ((with_reducible refine gate_callee (f := 8) rfl ?_); refine goesL_ (some 17) rfl rfl Try.func8 (by kernel_rfl) rfl #[.int .i64 0, .string (strOfNums y155)] rfl (by (try simp only [List.map_toArray, List.map_cons, List.map_nil]); first | done | rfl | (simp only [List.length_drop, List.length_take]; rfl)) ?_; (with_reducible refine (seal_Lay.calls kj1 0 (strOfNums y155) t158 t159 _ A10.out).mono ?_); rintro e w23 ⟨rfl, hb⟩; refine ⟨_, rfl, ?_⟩; have n0_ := Aside0.mk (Kd.R_below (by (with_reducible repeat (first | apply Kd.R_alloc | apply Kd.R_drewN | apply Kd.R_drew)); exact HO157.out) hb); have n1_ := Aside0.mk (below_step (by repeat (first | (with_reducible first | exact HB.out | apply below_alloc | apply pw_below_drewN | apply below_drew1) | exact HB.out)) hb); clear HO157; clear HB; have HO157 := n0_; have HB := n1_; clear n0_ n1_; (try clear hb); (try clear hb2); (try clear hk); (try clear hi)))
                  go_ret
                  exact ⟨by first | rfl | (simp [errW_none, errW_some] <;> rfl) | (simp only [← hji7]; first | rfl | (simp [errW_none, errW_some] <;> rfl)) | (simp [*, errW_none, errW_some] <;> rfl), by repeat (first | (with_reducible first | exact HB.out | apply below_alloc | apply pw_below_drewN | apply below_drew1) | exact HB.out)⟩
              · rw [if_neg c12] at H
                have c12b0 : (t158.toList == ([] : List UInt8)) = false := beq_eq_false_iff_ne.mpr c12
                have c12b1 : (t158.toList != ([] : List UInt8)) = true := bne_iff_ne.mpr c12
                obtain rfl := Option.some.inj H
                go_wp2_with (first | ((with_reducible refine gate_dst (N := 15) rfl ?_); refine Kd.R_make (Kd.int .u8) _ 5 rfl (N := 15) rfl 33 _ _ rfl ji7 rfl rfl Try.underlying33 (.int .u8 0) 1 info5 rfl (by decide) (by omega) 0 (ok := fun _ => True) (okp := fun _ => True) rfl (fun _ hk => hk) trivial (of_decide_eq_true (by first | (with_reducible assumption) | assumption)) (Nat.le_trans (Nat.mul_le_mul_right _ (of_decide_eq_true (by first | (with_reducible assumption) | assumption) : ji7.toNat ≤ 281474976710656)) (by omega)) (Below.refl _ _) (Nat.le_refl _) ?_; intro v156 w24 ho25 hb hg_ hnew_; clear hg_ hnew_; (first | rw [← Ny155.out] at ho25 | (simp only [Int.reduceToNat] at ho25; rw [← Ny155.out] at ho25)); have n0_ := Aside0.mk (Kd.R_lower ho25 (below_size (by repeat (first | (with_reducible first | exact HB.out | apply below_alloc | apply pw_below_drewN | apply below_drew1) | exact HB.out)))); have n1_ := Aside0.mk (below_step (by repeat (first | (with_reducible first | exact HB.out | apply below_alloc | apply pw_below_drewN | apply below_drew1) | exact HB.out)) hb); clear HB; have HO157 := n0_; have HB := n1_; clear n0_ n1_; clear hb ho25; have hcv26 := own_string (P := Try.prog) Try.underlying33 Try.underlying5 Try.underlying9 (Kd.own_of_R HO157.out)) | ((with_reducible refine gate_callee (f := 8) rfl ?_); refine goesL_ (some 17) rfl rfl Try.func8 (by kernel_rfl) rfl #[.int .i64 0, .string (strOfNums y155)] rfl (by (try simp only [List.map_toArray, List.map_cons, List.map_nil]); first | done | rfl | (simp only [List.length_drop, List.length_take]; rfl)) ?_; (with_reducible refine (seal_Lay.calls kj1 0 (strOfNums y155) t158 t159 _ A10.out).mono ?_); rintro e w27 ⟨rfl, hb⟩; refine ⟨_, rfl, ?_⟩; have n0_ := Aside0.mk (Kd.R_below (by (with_reducible repeat (first | apply Kd.R_alloc | apply Kd.R_drewN | apply Kd.R_drew)); exact HO157.out) hb); have n1_ := Aside0.mk (below_step (by repeat (first | (with_reducible first | exact HB.out | apply below_alloc | apply pw_below_drewN | apply below_drew1) | exact HB.out)) hb); clear HO157; clear HB; have HO157 := n0_; have HB := n1_; clear n0_ n1_; (try clear hb); (try clear hb2); (try clear hk); (try clear hi)))
                go_ret
                exact ⟨by first | rfl | (simp [errW_none, errW_some] <;> rfl) | (simp only [← hji7]; first | rfl | (simp [errW_none, errW_some] <;> rfl)) | (simp [*, errW_none, errW_some] <;> rfl), by repeat (first | (with_reducible first | exact HB.out | apply below_alloc | apply pw_below_drewN | apply below_drew1) | exact HB.out)⟩
            · rw [if_neg c11] at H
              have c11b0 : decide (0 < a0) = false := decide_eq_false c11
              clear c11
              by_cases c28 : (t158.size : Int) = 131088
              · rw [if_pos c28] at H
                have c28b0 : ((t158.size : Int) == 131088) = true := beq_iff_eq.mpr c28
                have c28b1 : ((t158.size : Int) != 131088) = false := bne_eq_false_iff_eq.mpr c28
                clear c28
                by_cases c29 : t159 = 0
                · rw [if_pos c29] at H
                  have c29b0 : (t159 == 0) = true := beq_iff_eq.mpr c29
                  have c29b1 : (t159 != 0) = false := bne_eq_false_iff_eq.mpr c29
                  clear c29
                  replace H := Option.bind_eq_some_iff.mp H
                  obtain ⟨t161, A300, H⟩ := H
                  replace H : (some t161) = some r := H
                  have A30 := Aside0.mk A300
                  clear A300
                  obtain rfl := Option.some.inj H
                  go_wp2_with (first | ((with_reducible refine gate_dst (N := 15) rfl ?_); refine Kd.R_make (Kd.int .u8) _ 5 rfl (N := 15) rfl 33 _ _ rfl ji7 rfl rfl Try.underlying33 (.int .u8 0) 1 info5 rfl (by decide) (by omega) 0 (ok := fun _ => True) (okp := fun _ => True) rfl (fun _ hk => hk) trivial (of_decide_eq_true (by first | (with_reducible assumption) | assumption)) (Nat.le_trans (Nat.mul_le_mul_right _ (of_decide_eq_true (by first | (with_reducible assumption) | assumption) : ji7.toNat ≤ 281474976710656)) (by omega)) (Below.refl _ _) (Nat.le_refl _) ?_; intro v156 w31 ho32 hb hg_ hnew_; clear hg_ hnew_; (first | rw [← Ny155.out] at ho32 | (simp only [Int.reduceToNat] at ho32; rw [← Ny155.out] at ho32)); have n0_ := Aside0.mk (Kd.R_lower ho32 (below_size (by repeat (first | (with_reducible first | exact HB.out | apply below_alloc | apply pw_below_drewN | apply below_drew1) | exact HB.out)))); have n1_ := Aside0.mk (below_step (by repeat (first | (with_reducible first | exact HB.out | apply below_alloc | apply pw_below_drewN | apply below_drew1) | exact HB.out)) hb); clear HB; have HO157 := n0_; have HB := n1_; clear n0_ n1_; clear hb ho32; have hcv33 := own_string (P := Try.prog) Try.underlying33 Try.underlying5 Try.underlying9 (Kd.own_of_R HO157.out)) | ((with_reducible refine gate_callee (f := 8) rfl ?_); refine goesL_ (some 17) rfl rfl Try.func8 (by kernel_rfl) rfl #[.int .i64 0, .string (strOfNums y155)] rfl (by (try simp only [List.map_toArray, List.map_cons, List.map_nil]); first | done | rfl | (simp only [List.length_drop, List.length_take]; rfl)) ?_; (with_reducible refine (seal_Lay.calls kj1 0 (strOfNums y155) t158 t159 _ A10.out).mono ?_); rintro e w34 ⟨rfl, hb⟩; refine ⟨_, rfl, ?_⟩; have n0_ := Aside0.mk (Kd.R_below (by (with_reducible repeat (first | apply Kd.R_alloc | apply Kd.R_drewN | apply Kd.R_drew)); exact HO157.out) hb); have n1_ := Aside0.mk (below_step (by repeat (first | (with_reducible first | exact HB.out | apply below_alloc | apply pw_below_drewN | apply below_drew1) | exact HB.out)) hb); clear HO157; clear HB; have HO157 := n0_; have HB := n1_; clear n0_ n1_; (try clear hb); (try clear hb2); (try clear hk); (try clear hi)) | (go_at_call 7; (with_reducible refine (styluslaw29_lives.calls kj1  t161 _ A30.out).mono ?_); rintro e w35 ⟨rfl, hb⟩; have n0_ := Aside0.mk (Kd.R_below (by (with_reducible repeat (first | apply Kd.R_alloc | apply Kd.R_drewN | apply Kd.R_drew)); exact HO157.out) hb); have n1_ := Aside0.mk (below_step (by repeat (first | (with_reducible first | exact HB.out | apply below_alloc | apply pw_below_drewN | apply below_drew1) | exact HB.out)) hb); clear HO157; clear HB; have HO157 := n0_; have HB := n1_; clear n0_ n1_; (try clear hb); (try clear hb2); (try clear hk); (try clear hi)))
                  go_ret
                  exact ⟨by first | rfl | (simp [errW_none, errW_some] <;> rfl) | (simp only [← hji7]; first | rfl | (simp [errW_none, errW_some] <;> rfl)) | (simp [*, errW_none, errW_some] <;> rfl), by repeat (first | (with_reducible first | exact HB.out | apply below_alloc | apply pw_below_drewN | apply below_drew1) | exact HB.out)⟩
                · rw [if_neg c29] at H
                  have c29b0 : (t159 == 0) = false := beq_eq_false_iff_ne.mpr c29
                  have c29b1 : (t159 != 0) = true := bne_iff_ne.mpr c29
                  obtain rfl := Option.some.inj H
                  go_wp2_with (first | ((with_reducible refine gate_dst (N := 15) rfl ?_); refine Kd.R_make (Kd.int .u8) _ 5 rfl (N := 15) rfl 33 _ _ rfl ji7 rfl rfl Try.underlying33 (.int .u8 0) 1 info5 rfl (by decide) (by omega) 0 (ok := fun _ => True) (okp := fun _ => True) rfl (fun _ hk => hk) trivial (of_decide_eq_true (by first | (with_reducible assumption) | assumption)) (Nat.le_trans (Nat.mul_le_mul_right _ (of_decide_eq_true (by first | (with_reducible assumption) | assumption) : ji7.toNat ≤ 281474976710656)) (by omega)) (Below.refl _ _) (Nat.le_refl _) ?_; intro v156 w36 ho37 hb hg_ hnew_; clear hg_ hnew_; (first | rw [← Ny155.out] at ho37 | (simp only [Int.reduceToNat] at ho37; rw [← Ny155.out] at ho37)); have n0_ := Aside0.mk (Kd.R_lower ho37 (below_size (by repeat (first | (with_reducible first | exact HB.out | apply below_alloc | apply pw_below_drewN | apply below_drew1) | exact HB.out)))); have n1_ := Aside0.mk (below_step (by repeat (first | (with_reducible first | exact HB.out | apply below_alloc | apply pw_below_drewN | apply below_drew1) | exact HB.out)) hb); clear HB; have HO157 := n0_; have HB := n1_; clear n0_ n1_; clear hb ho37; have hcv38 := own_string (P := Try.prog) Try.underlying33 Try.underlying5 Try.underlying9 (Kd.own_of_R HO157.out)) | ((with_reducible refine gate_callee (f := 8) rfl ?_); refine goesL_ (some 17) rfl rfl Try.func8 (by kernel_rfl) rfl #[.int .i64 0, .string (strOfNums y155)] rfl (by (try simp only [List.map_toArray, List.map_cons, List.map_nil]); first | done | rfl | (simp only [List.length_drop, List.length_take]; rfl)) ?_; (with_reducible refine (seal_Lay.calls kj1 0 (strOfNums y155) t158 t159 _ A10.out).mono ?_); rintro e w39 ⟨rfl, hb⟩; refine ⟨_, rfl, ?_⟩; have n0_ := Aside0.mk (Kd.R_below (by (with_reducible repeat (first | apply Kd.R_alloc | apply Kd.R_drewN | apply Kd.R_drew)); exact HO157.out) hb); have n1_ := Aside0.mk (below_step (by repeat (first | (with_reducible first | exact HB.out | apply below_alloc | apply pw_below_drewN | apply below_drew1) | exact HB.out)) hb); clear HO157; clear HB; have HO157 := n0_; have HB := n1_; clear n0_ n1_; (try clear hb); (try clear hb2); (try clear hk); (try clear hi)))
                  go_ret
                  exact ⟨by first | rfl | (simp [errW_none, errW_some] <;> rfl) | (simp only [← hji7]; first | rfl | (simp [errW_none, errW_some] <;> rfl)) | (simp [*, errW_none, errW_some] <;> rfl), by repeat (first | (with_reducible first | exact HB.out | apply below_alloc | apply pw_below_drewN | apply below_drew1) | exact HB.out)⟩
              · rw [if_neg c28] at H
                have c28b0 : ((t158.size : Int) == 131088) = false := beq_eq_false_iff_ne.mpr c28
                have c28b1 : ((t158.size : Int) != 131088) = true := bne_iff_ne.mpr c28
                obtain rfl := Option.some.inj H
                go_wp2_with (first | ((with_reducible refine gate_dst (N := 15) rfl ?_); refine Kd.R_make (Kd.int .u8) _ 5 rfl (N := 15) rfl 33 _ _ rfl ji7 rfl rfl Try.underlying33 (.int .u8 0) 1 info5 rfl (by decide) (by omega) 0 (ok := fun _ => True) (okp := fun _ => True) rfl (fun _ hk => hk) trivial (of_decide_eq_true (by first | (with_reducible assumption) | assumption)) (Nat.le_trans (Nat.mul_le_mul_right _ (of_decide_eq_true (by first | (with_reducible assumption) | assumption) : ji7.toNat ≤ 281474976710656)) (by omega)) (Below.refl _ _) (Nat.le_refl _) ?_; intro v156 w40 ho41 hb hg_ hnew_; clear hg_ hnew_; (first | rw [← Ny155.out] at ho41 | (simp only [Int.reduceToNat] at ho41; rw [← Ny155.out] at ho41)); have n0_ := Aside0.mk (Kd.R_lower ho41 (below_size (by repeat (first | (with_reducible first | exact HB.out | apply below_alloc | apply pw_below_drewN | apply below_drew1) | exact HB.out)))); have n1_ := Aside0.mk (below_step (by repeat (first | (with_reducible first | exact HB.out | apply below_alloc | apply pw_below_drewN | apply below_drew1) | exact HB.out)) hb); clear HB; have HO157 := n0_; have HB := n1_; clear n0_ n1_; clear hb ho41; have hcv42 := own_string (P := Try.prog) Try.underlying33 Try.underlying5 Try.underlying9 (Kd.own_of_R HO157.out)) | ((with_reducible refine gate_callee (f := 8) rfl ?_); refine goesL_ (some 17) rfl rfl Try.func8 (by kernel_rfl) rfl #[.int .i64 0, .string (strOfNums y155)] rfl (by (try simp only [List.map_toArray, List.map_cons, List.map_nil]); first | done | rfl | (simp only [List.length_drop, List.length_take]; rfl)) ?_; (with_reducible refine (seal_Lay.calls kj1 0 (strOfNums y155) t158 t159 _ A10.out).mono ?_); rintro e w43 ⟨rfl, hb⟩; refine ⟨_, rfl, ?_⟩; have n0_ := Aside0.mk (Kd.R_below (by (with_reducible repeat (first | apply Kd.R_alloc | apply Kd.R_drewN | apply Kd.R_drew)); exact HO157.out) hb); have n1_ := Aside0.mk (below_step (by repeat (first | (with_reducible first | exact HB.out | apply below_alloc | apply pw_below_drewN | apply below_drew1) | exact HB.out)) hb); clear HO157; clear HB; have HO157 := n0_; have HB := n1_; clear n0_ n1_; (try clear hb); (try clear hb2); (try clear hk); (try clear hi)))
                go_ret
                exact ⟨by first | rfl | (simp [errW_none, errW_some] <;> rfl) | (simp only [← hji7]; first | rfl | (simp [errW_none, errW_some] <;> rfl)) | (simp [*, errW_none, errW_some] <;> rfl), by repeat (first | (with_reducible first | exact HB.out | apply below_alloc | apply pw_below_drewN | apply below_drew1) | exact HB.out)⟩
          · rw [if_neg c9] at H
            exact absurd H (by simp)
        · rw [if_neg c8] at H
          exact absurd H (by simp)

/-- THE ONE PURE STATEMENT of styluslaw29_SealLong: yours. -/
def styluslaw29_SealLong.Pure : Prop := ∀ (a0 : Int), (Lit.int .i64 a0).wf = true → ∃ k, styluslaw29_SealLong.f k a0 = some true
theorem styluslaw29_SealLong.walk (P : styluslaw29_SealLong.Pure) (a0 : Int) (w : World) (w0 : (Lit.int .i64 a0).wf = true) :
    Calls Try.prog 6 #[.int .i64 a0] w fun e w' => e = .returned (.bool true) ∧ Below w.heap.size w w' := by
  obtain ⟨k, h⟩ := P a0 w0
  refine (styluslaw29_SealLong.calls k a0 true w h).mono ?_
  rintro e w' ⟨rfl, hd⟩
  exact ⟨rfl, hd⟩

end Go.Proofs.Ytmbindcgghddjaa.P
