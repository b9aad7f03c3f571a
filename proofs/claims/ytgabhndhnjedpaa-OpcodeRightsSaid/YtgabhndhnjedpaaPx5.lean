-- Laid by a program of this session (wip/tools/fork_print.py over the kit's print) out of Lean's print of the translation. Lean checks it.
import Derived.Test.YtgabhndhnjedpaaPx0
import Derived.Test.YtgabhndhnjedpaaPx1
import Derived.Test.YtgabhndhnjedpaaPx3
import Derived.Test.YtgabhndhnjedpaaPx4
namespace Go.Proofs.Ytgabhndhnjedpaa.P
open Go.RowKit Go.Proofs.YtgabhndhnjedpaaW.PrintWords Go.Proofs.YtgabhndhnjedpaaW.PrintLast Go.Proofs.YtgabhndhnjedpaaW.PrintMore
attribute [local go_sem] max2_int min2_int max_two min_two max_three min_three max_four min_four   -- for this text's walks alone
set_option linter.unusedVariables false
set_option linter.unusedSimpArgs false

attribute [local go_sem high] eqA23
/-! ### opcode_Read: function 10 -/
-- NEEDS stylus/opcode.Right (*stylus/opcode.reader).number
-- the fields' numbers are read one behind the other, what is left is the text
def opcode_Read.all (k : Nat) : Int → Int → ByteArray → List opcode_Fld → Option (Option (Int × Int × ByteArray))
  | x1, x2, s, [] => some (some (x1, x2, s))
  | _, x2, s, .place _ :: l => (opcode_reader_number.f k s false).bind fun o => if o.2.2 = true then (some none) else opcode_Read.all k o.1 x2 o.2.1 l
  | x1, _, s, .len _ :: l => (opcode_reader_number.f k s false).bind fun o => if o.2.2 = true then (some none) else opcode_Read.all k x1 o.1 o.2.1 l
  | x1, x2, s, .ins _ :: l => opcode_Read.all k x1 x2 s l
  | x1, x2, s, .nam _ :: l => opcode_Read.all k x1 x2 s l
def opcode_Read.f (k : Nat) (s : ByteArray) : Option (Int × Int × Int × ByteArray × Int) :=
  if s.size = 0 then (some (0, 0, 0, (⟨#[]⟩ : ByteArray), 18)) else
    (if (opcode_fields.g (bt s 0) 0 0 ⟨#[]⟩).2 = true then ((opcode_Read.all k 0 0 (s.extract 1 s.size) (opcode_fields.g (bt s 0) 0 0 ⟨#[]⟩).1).bind fun o => match o with
      | none => (some (0, 0, 0, (⟨#[]⟩ : ByteArray), 18))
      | some x => (opcode_Right.f k (bt s 0) x.1 x.2.1 x.2.2).bind fun b => if b = true then (some (bt s 0, x.1, x.2.1, x.2.2, 0)) else (some (0, 0, 0, (⟨#[]⟩ : ByteArray), 5)))
     else (some (0, 0, 0, (⟨#[]⟩ : ByteArray), 5)))
theorem opcode_Read.mono : ∀ s k, LeO (opcode_Read.f k s) (opcode_Read.f (k + 1) s) := by
  intro s k
  have h2 : ∀ l x1 x2 s, LeO (opcode_Read.all k x1 x2 s l) (opcode_Read.all (k + 1) x1 x2 s l) := fun l => by
    induction l with
    | nil => exact fun _ _ _ => LeO.refl _
    | cons x l ih =>
      intro x1 x2 s
      cases x with
      | place n => simp only [opcode_Read.all]; exact LeO.bind (opcode_reader_number.mono _ _ _) fun _ => LeO.ite (LeO.refl _) (ih _ _ _)
      | len n => simp only [opcode_Read.all]; exact LeO.bind (opcode_reader_number.mono _ _ _) fun _ => LeO.ite (LeO.refl _) (ih _ _ _)
      | ins t => simp only [opcode_Read.all]; exact ih _ _ _
      | nam t => simp only [opcode_Read.all]; exact ih _ _ _
  unfold opcode_Read.f
  refine LeO.ite (LeO.refl _) (LeO.ite (LeO.bind (h2 _ _ _ _) fun o => ?_) (LeO.refl _))
  cases o with
  | none => exact LeO.refl _
  | some x => exact LeO.bind (opcode_Right.mono _ _ _ _ _) fun _ => LeO.refl _
theorem opcode_new2 (w : World) (o o' : Obj) : ((w.alloc o).alloc o').heap[w.heap.size + 1]? = some o' := by
  have := heap_alloc_new (w.alloc o) o'
  simpa using this
set_option maxHeartbeats 8000000 in
set_option maxRecDepth 100000 in
theorem opcode_Read.calls (k : Nat) (a0 : ByteArray) (r1 r2 r3 : Int) (r4 : ByteArray) (r5 : Int) (w : World) (h : opcode_Read.f k a0 = some (r1, r2, r3, r4, r5)) :
    Calls Try.prog 10 #[.string a0] w fun e w' => e = .returned (.tuple #[.agg #[.int .i64 r1, .int .i64 r2, .int .i64 r3, .string r4], .int .i64 r5]) ∧ Below w.heap.size w w' := by
  have hu23 := Try.underlying23
  have hu47 := Try.underlying47
  unfold opcode_Read.f at h
  have hg2 : (w.alloc (.cells #[.int .i64 0, .int .i64 0, .int .i64 0, .string ⟨#[]⟩] 23)).heap[w.heap.size]? = some (.cells #[.int .i64 0, .int .i64 0, .int .i64 0, .string ⟨#[]⟩] 23 (0, 0)) := heap_alloc_new w _
  by_cases z : a0.size = 0
  · rw [if_pos z] at h
    simp only [Option.some.injEq, Prod.mk.injEq] at h
    obtain ⟨rfl, rfl, rfl, rfl, rfl⟩ := h
    have hE : a0.isEmpty = true := by unfold ByteArray.isEmpty; rw [z]; rfl
    obtain rfl : a0 = ⟨#[]⟩ := ByteArray.ext (Array.eq_empty_of_size_eq_zero z)
    go_enter Try.func10, Try.ntmps10
    go_wp2_with fail
    refine bodyPost_ret (results_ct rfl _ _ w.heap.size 23 #[.int .i64 0, .int .i64 0, .int .i64 0, .string ⟨#[]⟩] (0, 0) _ rfl hg2 Try.underlying23 rfl (by kernel_rfl)) rfl ?_
    exact ⟨rfl, below_alloc (Below.refl _ _) _⟩
  rw [if_neg z] at h
  have hE : a0.toList.isEmpty = false := by
    rw [ByteArray.toList_eq, List.isEmpty_eq_false_iff]
    intro h
    have := data_length a0
    rw [h] at this
    exact z this.symm
  have hx11 : ∀ h : 0 < a0.size, (((a0[0]'h).toNat : Nat) : Int) = bt a0 0 := fun h => bt_at a0 0 h
  have hb0 := (bt_range a0 0).1
  have hb1 := (bt_range a0 0).2
  have hz1 : 1 ≤ a0.size := by omega
  have hz1i : (1 : Int) ≤ (a0.size : Int) := by omega
  have hz0i : (0 : Int) < (a0.size : Int) := by omega
  have hfew := opcode_fields.few (bt a0 0) 0 0 ⟨#[]⟩
  have hF := fun W => opcode_fields.calls (bt a0 0) 0 0 ⟨#[]⟩ W
  obtain ⟨⟨l, ok⟩, hg⟩ : ∃ z, opcode_fields.g (bt a0 0) 0 0 ⟨#[]⟩ = z := ⟨_, rfl⟩
  rw [hg] at h hfew
  simp only [hg] at hF
  simp only at h hfew hF
  have HF := Aside0.mk hF
  have HN := Aside0.mk hfew
  have HH := Aside0.mk h
  have HG2 := Aside0.mk hg2
  clear h hfew hF hg hg2 z
  go_enter Try.func10, Try.ntmps10
  go_upto_region 4 with fail
  go_cut [5, 6] (fun v5 v6 wx => Aside0 (opcode_Row wx v5 l) ∧ v6 = .bool ok ∧ wx.heap[w.heap.size]? = some (.cells #[.int .i64 0, .int .i64 0, .int .i64 0, .string ⟨#[]⟩] 23 (0, 0)) ∧ wx.heap[w.heap.size + 1]? = some (.cells #[.int .i64 (bt a0 0), .int .i64 0, .int .i64 0, .string ⟨#[]⟩] 23 (0, 0)) ∧ Aside0 (Below w.heap.size w wx))
  case first =>
    go_wp2_with (go_at_call 18; (with_reducible refine (HF.out _).mono ?_); rintro e w2 ⟨v, rfl, hrow, hb⟩)
    go_meet
    have k2 := blk_below (blk_alloc HG2.out _) hb
    have k4 := blk_below (opcode_new2 w _ _) hb
    exact ⟨⟨hrow⟩, rfl, k2, k4, ⟨below_step (below_alloc (below_alloc (Below.refl _ _) _) _) hb⟩⟩
  clear HF HG2
  obtain ⟨HR, rfl, hg2, hg4, HB⟩ := hcut
  have h := HH.out
  clear HH
  cases ok with
  | false =>
    rw [if_neg Bool.false_ne_true] at h
    simp only [Option.some.injEq, Prod.mk.injEq] at h
    obtain ⟨rfl, rfl, rfl, rfl, rfl⟩ := h
    have p0 := (blk_cell hg2 0).trans rfl
    have p1 := (blk_cell hg2 1).trans rfl
    have p2 := (blk_cell hg2 2).trans rfl
    have p3 := (blk_cell hg2 3).trans rfl
    have f0 := blk_frozen hg2 0
    have f1 := blk_frozen hg2 1
    have f2 := blk_frozen hg2 2
    have f3 := blk_frozen hg2 3
    have HG2 := Aside0.mk hg2
    clear hg2 hg4
    go_wp2_with fail
    refine bodyPost_ret (results_ct rfl _ _ w.heap.size 23 #[.int .i64 0, .int .i64 0, .int .i64 0, .string ⟨#[]⟩] (0, 0) _ rfl (opcode_set4 HG2.out _ _ _ _) Try.underlying23 rfl (by kernel_rfl)) rfl ?_
    exact ⟨rfl, (((HB.out.setCell (Nat.le_refl _) _).setCell (Nat.le_refl _) _).setCell (Nat.le_refl _) _).setCell (Nat.le_refl _) _⟩
  | true =>
    rw [if_pos rfl] at h
    replace h := Option.bind_eq_some_iff.mp h
    obtain ⟨R, A1, h⟩ := h
    have HA1 := Aside0.mk A1
    have HH := Aside0.mk h
    obtain ⟨A, c, rfl, hA⟩ := HR.out.slice
    have HA := Aside0.mk hA
    have HG2 := Aside0.mk hg2
    have HG4 := Aside0.mk hg4
    have hn2 : (l.length : Int) ≤ 2 := by have := HN.out; omega
    clear h A1 hA hg2 hg4
    go_upto_region 8 with fail
    go_wp2_with fail
    go_loopg [31] l.length (fun kq v31 wx => ∃ (i : Nat) (x1 x2 : Int) (s : ByteArray), v31 = .int .i64 (i : Int) ∧ Aside0 (i + kq = l.length) ∧ Aside0 (wx.heap[w.heap.size]? = some (.cells #[.int .i64 0, .int .i64 0, .int .i64 0, .string ⟨#[]⟩] 23 (0, 0))) ∧ Aside0 (wx.heap[w.heap.size + 1]? = some (.cells #[.int .i64 (bt a0 0), .int .i64 x1, .int .i64 x2, .string ⟨#[]⟩] 23 (0, 0))) ∧ Aside0 (wx.heap[wc.heap.size]? = some (.cells #[.string s, .bool false] 47 (0, 0))) ∧ Aside0 (opcode_Read.all k x1 x2 s (l.drop i) = some R) ∧ Aside0 (∀ (j : Nat) (hj : j < l.length), ∃ b, A = some ⟨b, 0, none⟩ ∧ b < wc.heap.size ∧ b ≠ w.heap.size + 1 ∧ wx.cell? ⟨b, j, none⟩ = some (l[j]'hj).val) ∧ Aside0 (Below w.heap.size w wx))
    case atStart =>
      refine ⟨0, 0, 0, _, rfl, ⟨by omega⟩, ⟨blk_alloc HG2.out _⟩, ⟨blk_alloc HG4.out _⟩, ⟨heap_alloc_new wc _⟩, HA1, ⟨fun j hj => ?_⟩, ⟨below_alloc HB.out _⟩⟩
      obtain ⟨b, e, hc⟩ := HA.out j hj
      have hlt := World.block_lt_of_cell? wc _ hc
      refine ⟨b, e, hlt, ?_, pw_cell_below (below_alloc (Below.refl _ _) _) hc⟩
      rintro rfl
      have h2 := HN.out
      rw [blk_cell HG4.out] at hc
      rcases j with _ | _ | j
      · cases hv : l[0]'hj <;> rw [hv] at hc <;> simp [opcode_Fld.val] at hc
      · cases hv : l[1]'hj <;> rw [hv] at hc <;> simp [opcode_Fld.val] at hc
      · omega
    case round =>
      obtain ⟨i, x1, x2, s, rfl, HI, H2, H4, H7, HL, HA', HW⟩ := hrel
      cases gk with
      | zero =>
        have hi : i = l.length := by have := HI.out; omega
        have hlt : decide ((i : Int) < (l.length : Int)) = false := decide_eq_false (by omega)
        have hltn : decide (i < l.length) = false := decide_eq_false (by omega)
        subst hi
        have h := HL.out
        rw [List.drop_length] at h
        obtain rfl := Option.some.inj h
        have hh := HH.out
        clear h HL HA1 HH
        replace hh := Option.bind_eq_some_iff.mp hh
        obtain ⟨bb, A5, hh⟩ := hh
        have HA5 := Aside0.mk A5
        clear A5
        have q0 : wr.cell? ⟨wc.heap.size, 0, none⟩ = some (.string s) := (blk_cell H7.out 0).trans rfl
        have q1 := blk_frozen H4.out 3
        have q3 : wr.cell? ⟨w.heap.size + 1, 3, none⟩ = some (.string ⟨#[]⟩) := (blk_cell H4.out 3).trans rfl
        go_upto_region 19 with fail
        go_cut [] (fun wx => Aside0 (wx.heap[w.heap.size]? = some (.cells #[.int .i64 0, .int .i64 0, .int .i64 0, .string ⟨#[]⟩] 23 (0, 0))) ∧ Aside0 (wx.heap[w.heap.size + 1]? = some (.cells #[.int .i64 (bt a0 0), .int .i64 x1, .int .i64 x2, .string s] 23 (0, 0))) ∧ Aside0 (Below w.heap.size w wx))
        case first =>
          go_wp2_with fail
          go_meet
          exact ⟨⟨blk_far H2.out (by simp) _⟩, ⟨blk_put H4.out 3 _ rfl⟩, ⟨HW.out.setCell (Nat.le_succ _) _⟩⟩
        clear q0 q1 q3 H2 H4 H7 HW HA' HA
        obtain ⟨H2, H4, HW⟩ := hcut
        have c0 := (blk_cell H4.out 0).trans rfl
        have c1 := (blk_cell H4.out 1).trans rfl
        have c2 := (blk_cell H4.out 2).trans rfl
        have c3 := (blk_cell H4.out 3).trans rfl
        cases bb with
        | true =>
          rw [if_pos rfl] at hh
          simp only [Option.some.injEq, Prod.mk.injEq] at hh
          obtain ⟨rfl, rfl, rfl, rfl, rfl⟩ := hh
          go_wp2_with (go_at_call 12; (with_reducible refine (opcode_Right.calls k (bt a0 0) x1 x2 s true _ HA5.out).mono ?_); rintro e w3 ⟨rfl, hb3⟩; have h23 := blk_below H2.out hb3; have h43 := blk_below H4.out hb3; have d0 := (blk_cell h43 0).trans rfl; have d1 := (blk_cell h43 1).trans rfl; have d2 := (blk_cell h43 2).trans rfl; have d3 := (blk_cell h43 3).trans rfl; have p0 := (blk_cell h23 0).trans rfl; have p1 := (blk_cell h23 1).trans rfl; have p2 := (blk_cell h23 2).trans rfl; have p3 := (blk_cell h23 3).trans rfl; have f0 := blk_frozen h23 0; have f1 := blk_frozen h23 1; have f2 := blk_frozen h23 2; have f3 := blk_frozen h23 3; have HZ := Aside0.mk h23; have HB3 := Aside0.mk (below_step HW.out hb3); clear h23 h43 hb3)
          refine bodyPost_ret (results_ct rfl _ _ w.heap.size 23 #[.int .i64 (bt a0 0), .int .i64 x1, .int .i64 x2, .string s] (0, 0) _ rfl (opcode_set4 HZ.out _ _ _ _) Try.underlying23 rfl (by kernel_rfl)) rfl ?_
          exact ⟨rfl, (((HB3.out.setCell (Nat.le_refl _) _).setCell (Nat.le_refl _) _).setCell (Nat.le_refl _) _).setCell (Nat.le_refl _) _⟩
        | false =>
          rw [if_neg Bool.false_ne_true] at hh
          simp only [Option.some.injEq, Prod.mk.injEq] at hh
          obtain ⟨rfl, rfl, rfl, rfl, rfl⟩ := hh
          go_wp2_with (go_at_call 12; (with_reducible refine (opcode_Right.calls k (bt a0 0) x1 x2 s false _ HA5.out).mono ?_); rintro e w3 ⟨rfl, hb3⟩; have h23 := blk_below H2.out hb3; have p0 := (blk_cell h23 0).trans rfl; have p1 := (blk_cell h23 1).trans rfl; have p2 := (blk_cell h23 2).trans rfl; have p3 := (blk_cell h23 3).trans rfl; have f0 := blk_frozen h23 0; have f1 := blk_frozen h23 1; have f2 := blk_frozen h23 2; have f3 := blk_frozen h23 3; have HZ := Aside0.mk h23; have HB3 := Aside0.mk (below_step HW.out hb3); clear h23 hb3)
          refine bodyPost_ret (results_ct rfl _ _ w.heap.size 23 #[.int .i64 0, .int .i64 0, .int .i64 0, .string ⟨#[]⟩] (0, 0) _ rfl (opcode_set4 HZ.out _ _ _ _) Try.underlying23 rfl (by kernel_rfl)) rfl ?_
          exact ⟨rfl, (((HB3.out.setCell (Nat.le_refl _) _).setCell (Nat.le_refl _) _).setCell (Nat.le_refl _) _).setCell (Nat.le_refl _) _⟩
      | succ k1 =>
        have hi : i < l.length := by have := HI.out; omega
        have hlt : decide ((i : Int) < (l.length : Int)) = true := decide_eq_true (by omega)
        have hltn : decide (i < l.length) = true := decide_eq_true hi
        obtain ⟨b, rfl, hb1, hb2, hcw⟩ := HA'.out i hi
        have HI' := Aside0.mk (show (i + 1) + k1 = l.length by have := HI.out; omega)
        have h0i : (0 : Int) ≤ (i : Int) := by omega
        have hil : (i : Int) < (l.length : Int) := by omega
        have h := HL.out
        rw [List.drop_eq_getElem_cons hi] at h
        obtain ⟨f, hf⟩ : ∃ f, l[i]'hi = f := ⟨_, rfl⟩
        rw [hf] at hcw h
        clear hf HL HA1 hb1 hb2
        cases f with
        | place n =>
          have ta0 := opcode_ta_place_place
          simp only [opcode_Fld.val] at hcw
          simp only [opcode_Read.all] at h
          replace h := Option.bind_eq_some_iff.mp h
          obtain ⟨⟨v, s', lk⟩, A3, h⟩ := h
          simp only at h
          have HA3 := Aside0.mk A3
          have HI7 : Aside0 (IsS47 w wr wc.heap.size s false) := ⟨⟨H7.out, HB.out.size⟩⟩
          clear A3
          cases lk with
          | true =>
            rw [if_pos rfl] at h
            obtain rfl := Option.some.inj h
            have h2 := HH.out
            simp only [Option.some.injEq, Prod.mk.injEq] at h2
            obtain ⟨rfl, rfl, rfl, rfl, rfl⟩ := h2
            clear h
            go_wp2_with (go_at_call 21; (with_reducible refine (opcode_reader_number.calls k wc.heap.size s false v s' true w _ HI7.out HW.out HA3.out).mono ?_); rintro e w3 ⟨rfl, hI3, hb3, hk3⟩; have hg43 := Aside0.mk ((hk3.2 _ (blk_lt H4.out) (Nat.ne_of_lt (blk_lt HG4.out)) (by simp)).trans H4.out); have hg23 := Aside0.mk ((hk3.2 _ (blk_lt H2.out) (Nat.ne_of_lt (blk_lt HG2.out)) (by simp)).trans H2.out); have hfz := blk_frozen hg43.out 1; have hcz := (blk_cell hg43.out 1).trans rfl; have hlk : (w3.setCell ⟨w.heap.size + 1, 1, none⟩ (.int .i64 v)).cell? ⟨wc.heap.size, 1, none⟩ = some (.bool true) := (cell_far (Nat.ne_of_gt (blk_lt HG4.out)) _).trans ((blk_cell hI3.1 1).trans rfl); have hz0 : (w3.setCell ⟨w.heap.size + 1, 1, none⟩ (.int .i64 v)).heap[w.heap.size]? = _ := blk_far hg23.out (by simp) _; have p0 := (blk_cell hz0 0).trans rfl; have p1 := (blk_cell hz0 1).trans rfl; have p2 := (blk_cell hz0 2).trans rfl; have p3 := (blk_cell hz0 3).trans rfl; have f0 := blk_frozen hz0 0; have f1 := blk_frozen hz0 1; have f2 := blk_frozen hz0 2; have f3 := blk_frozen hz0 3; have HZ0 := Aside0.mk hz0; have HB3 := Aside0.mk hb3; clear hz0 hI3 hk3 hb3)
            refine bodyPost_ret (results_ct rfl _ _ w.heap.size 23 #[.int .i64 0, .int .i64 0, .int .i64 0, .string ⟨#[]⟩] (0, 0) _ rfl (opcode_set4 HZ0.out _ _ _ _) Try.underlying23 rfl (by kernel_rfl)) rfl ?_
            exact ⟨rfl, ((((HB3.out.setCell (Nat.le_succ _) _).setCell (Nat.le_refl _) _).setCell (Nat.le_refl _) _).setCell (Nat.le_refl _) _).setCell (Nat.le_refl _) _⟩
          | false =>
            rw [if_neg Bool.false_ne_true] at h
            have HL' := Aside0.mk h
            clear h
            go_wp2_with (go_at_call 21; (with_reducible refine (opcode_reader_number.calls k wc.heap.size s false v s' false w _ HI7.out HW.out HA3.out).mono ?_); rintro e w3 ⟨rfl, hI3, hb3, hk3⟩; have hg43 := Aside0.mk ((hk3.2 _ (blk_lt H4.out) (Nat.ne_of_lt (blk_lt HG4.out)) (by simp)).trans H4.out); have hg23 := Aside0.mk ((hk3.2 _ (blk_lt H2.out) (Nat.ne_of_lt (blk_lt HG2.out)) (by simp)).trans H2.out); have hfz := blk_frozen hg43.out 1; have hcz := (blk_cell hg43.out 1).trans rfl; have hlk : (w3.setCell ⟨w.heap.size + 1, 1, none⟩ (.int .i64 v)).cell? ⟨wc.heap.size, 1, none⟩ = some (.bool false) := (cell_far (Nat.ne_of_gt (blk_lt HG4.out)) _).trans ((blk_cell hI3.1 1).trans rfl); have HI3 := Aside0.mk hI3; have HB3 := Aside0.mk hb3; have HK3 := Aside0.mk hk3; clear hI3 hk3 hb3)
            go_roundg k1
            case measure => omega
            case rel => exact ⟨i + 1, v, x2, s', rfl, HI', ⟨blk_far hg23.out (by simp) _⟩, ⟨blk_put hg43.out 1 _ rfl⟩, ⟨blk_far HI3.out.1 (Nat.ne_of_gt (blk_lt HG4.out)) _⟩, HL', ⟨fun j hj => by
              obtain ⟨b', e', l1, l2, hcj⟩ := HA'.out j hj
              refine ⟨b', e', l1, l2, (cell_far l2 _).trans ?_⟩
              have hlt := World.block_lt_of_cell? wr _ hcj
              have := HK3.out.2 b' hlt (Nat.ne_of_lt l1) (by simp)
              simp only [World.cell?, this]
              exact hcj⟩, ⟨HB3.out.setCell (Nat.le_succ _) _⟩⟩
        | len n =>
          have ta0 := opcode_ta_length_place
          have ta1 := opcode_ta_length_length
          simp only [opcode_Fld.val] at hcw
          simp only [opcode_Read.all] at h
          replace h := Option.bind_eq_some_iff.mp h
          obtain ⟨⟨v, s', lk⟩, A3, h⟩ := h
          simp only at h
          have HA3 := Aside0.mk A3
          have HI7 : Aside0 (IsS47 w wr wc.heap.size s false) := ⟨⟨H7.out, HB.out.size⟩⟩
          clear A3
          cases lk with
          | true =>
            rw [if_pos rfl] at h
            obtain rfl := Option.some.inj h
            have h2 := HH.out
            simp only [Option.some.injEq, Prod.mk.injEq] at h2
            obtain ⟨rfl, rfl, rfl, rfl, rfl⟩ := h2
            clear h
            go_wp2_with (go_at_call 21; (with_reducible refine (opcode_reader_number.calls k wc.heap.size s false v s' true w _ HI7.out HW.out HA3.out).mono ?_); rintro e w3 ⟨rfl, hI3, hb3, hk3⟩; have hg43 := Aside0.mk ((hk3.2 _ (blk_lt H4.out) (Nat.ne_of_lt (blk_lt HG4.out)) (by simp)).trans H4.out); have hg23 := Aside0.mk ((hk3.2 _ (blk_lt H2.out) (Nat.ne_of_lt (blk_lt HG2.out)) (by simp)).trans H2.out); have hfz := blk_frozen hg43.out 2; have hcz := (blk_cell hg43.out 2).trans rfl; have hlk : (w3.setCell ⟨w.heap.size + 1, 2, none⟩ (.int .i64 v)).cell? ⟨wc.heap.size, 1, none⟩ = some (.bool true) := (cell_far (Nat.ne_of_gt (blk_lt HG4.out)) _).trans ((blk_cell hI3.1 1).trans rfl); have hz0 : (w3.setCell ⟨w.heap.size + 1, 2, none⟩ (.int .i64 v)).heap[w.heap.size]? = _ := blk_far hg23.out (by simp) _; have p0 := (blk_cell hz0 0).trans rfl; have p1 := (blk_cell hz0 1).trans rfl; have p2 := (blk_cell hz0 2).trans rfl; have p3 := (blk_cell hz0 3).trans rfl; have f0 := blk_frozen hz0 0; have f1 := blk_frozen hz0 1; have f2 := blk_frozen hz0 2; have f3 := blk_frozen hz0 3; have HZ0 := Aside0.mk hz0; have HB3 := Aside0.mk hb3; clear hz0 hI3 hk3 hb3)
            refine bodyPost_ret (results_ct rfl _ _ w.heap.size 23 #[.int .i64 0, .int .i64 0, .int .i64 0, .string ⟨#[]⟩] (0, 0) _ rfl (opcode_set4 HZ0.out _ _ _ _) Try.underlying23 rfl (by kernel_rfl)) rfl ?_
            exact ⟨rfl, ((((HB3.out.setCell (Nat.le_succ _) _).setCell (Nat.le_refl _) _).setCell (Nat.le_refl _) _).setCell (Nat.le_refl _) _).setCell (Nat.le_refl _) _⟩
          | false =>
            rw [if_neg Bool.false_ne_true] at h
            have HL' := Aside0.mk h
            clear h
            go_wp2_with (go_at_call 21; (with_reducible refine (opcode_reader_number.calls k wc.heap.size s false v s' false w _ HI7.out HW.out HA3.out).mono ?_); rintro e w3 ⟨rfl, hI3, hb3, hk3⟩; have hg43 := Aside0.mk ((hk3.2 _ (blk_lt H4.out) (Nat.ne_of_lt (blk_lt HG4.out)) (by simp)).trans H4.out); have hg23 := Aside0.mk ((hk3.2 _ (blk_lt H2.out) (Nat.ne_of_lt (blk_lt HG2.out)) (by simp)).trans H2.out); have hfz := blk_frozen hg43.out 2; have hcz := (blk_cell hg43.out 2).trans rfl; have hlk : (w3.setCell ⟨w.heap.size + 1, 2, none⟩ (.int .i64 v)).cell? ⟨wc.heap.size, 1, none⟩ = some (.bool false) := (cell_far (Nat.ne_of_gt (blk_lt HG4.out)) _).trans ((blk_cell hI3.1 1).trans rfl); have HI3 := Aside0.mk hI3; have HB3 := Aside0.mk hb3; have HK3 := Aside0.mk hk3; clear hI3 hk3 hb3)
            go_roundg k1
            case measure => omega
            case rel => exact ⟨i + 1, x1, v, s', rfl, HI', ⟨blk_far hg23.out (by simp) _⟩, ⟨blk_put hg43.out 2 _ rfl⟩, ⟨blk_far HI3.out.1 (Nat.ne_of_gt (blk_lt HG4.out)) _⟩, HL', ⟨fun j hj => by
              obtain ⟨b', e', l1, l2, hcj⟩ := HA'.out j hj
              refine ⟨b', e', l1, l2, (cell_far l2 _).trans ?_⟩
              have hlt := World.block_lt_of_cell? wr _ hcj
              have := HK3.out.2 b' hlt (Nat.ne_of_lt l1) (by simp)
              simp only [World.cell?, this]
              exact hcj⟩, ⟨HB3.out.setCell (Nat.le_succ _) _⟩⟩
        | ins n =>
          have ta0 := opcode_ta_insert_place
          have ta1 := opcode_ta_insert_length
          simp only [opcode_Fld.val] at hcw
          simp only [opcode_Read.all] at h
          have HL' := Aside0.mk h
          have hlk : wr.cell? ⟨wc.heap.size, 1, none⟩ = some (.bool false) := (blk_cell H7.out 1).trans rfl
          clear h
          go_wp2_with fail
          go_roundg k1
          case measure => omega
          case rel => exact ⟨i + 1, x1, x2, s, rfl, HI', H2, H4, H7, HL', HA', HW⟩
        | nam n =>
          have ta0 := opcode_ta_name_place
          have ta1 := opcode_ta_name_length
          simp only [opcode_Fld.val] at hcw
          simp only [opcode_Read.all] at h
          have HL' := Aside0.mk h
          have hlk : wr.cell? ⟨wc.heap.size, 1, none⟩ = some (.bool false) := (blk_cell H7.out 1).trans rfl
          clear h
          go_wp2_with fail
          go_roundg k1
          case measure => omega
          case rel => exact ⟨i + 1, x1, x2, s, rfl, HI', H2, H4, H7, HL', HA', HW⟩

/-! ### styluslaw14_lives: function 7 -/
def styluslaw14_lives.f (k : Nat)  : Option (Bool) := (opcode_Bytes.f k 5 0 0 (⟨#[]⟩ : ByteArray)).bind fun bt121 => ((opcode_Read.f k (⟨#[1, 2, 0, 0, 0, 97, 98]⟩ : ByteArray)).bind fun bt123 => (if bt121.1.toList = ([5] : List UInt8) then (if bt121.2 = 0 then (if bt123.2.2.2.2 = 0 then (some (bt123.1 == 1 && (bt123.2.1 == 2 && (bt123.2.2.1 == 0 && (bt123.2.2.2.1.toList == ([97, 98] : List UInt8)))))) else (some false)) else (some false)) else (some false)))
theorem styluslaw14_lives.mono : ∀ k, LeO (styluslaw14_lives.f k ) (styluslaw14_lives.f (k + 1) ) := by
  intro  k
  unfold styluslaw14_lives.f
  repeat' first
      | (with_reducible exact opcode_Bytes.mono _ _ _ _ _)
      | (with_reducible exact opcode_Read.mono _ _)
      | (with_reducible exact LeO.refl _)
      | (with_reducible exact LeO.none _)
      | (with_reducible refine LeO.ite ?_ ?_)
      | (with_reducible refine LeO.bind ?_ (fun _ => ?_))
      | exact opcode_Bytes.mono _ _ _ _ _
      | exact opcode_Read.mono _ _
      | exact LeO.none _
      | refine LeO.ite ?_ ?_
      | refine LeO.bind ?_ (fun _ => ?_)
set_option maxHeartbeats 8000000 in
set_option maxRecDepth 100000 in
theorem styluslaw14_lives.calls (k : Nat)  (r : Bool) (w : World) (h : styluslaw14_lives.f k  = some r) :
    Calls Try.prog 7 #[] w fun e w' => e = .returned (.bool r) ∧ Below w.heap.size w w' := by
  have hu23 := Try.underlying23
  have HB := Aside0.mk (Below.refl w.heap.size w)
  have H : ((opcode_Bytes.f k 5 0 0 (⟨#[]⟩ : ByteArray)).bind fun bt121 => ((opcode_Read.f k (⟨#[1, 2, 0, 0, 0, 97, 98]⟩ : ByteArray)).bind fun bt123 => (if bt121.1.toList = ([5] : List UInt8) then (if bt121.2 = 0 then (if bt123.2.2.2.2 = 0 then (some (bt123.1 == 1 && (bt123.2.1 == 2 && (bt123.2.2.1 == 0 && (bt123.2.2.2.1.toList == ([97, 98] : List UInt8)))))) else (some false)) else (some false)) else (some false)))) = some r := h
  clear h
  replace H := Option.bind_eq_some_iff.mp H
  obtain ⟨⟨t121, t122⟩, A10, H⟩ := H
  replace H : ((opcode_Read.f k (⟨#[1, 2, 0, 0, 0, 97, 98]⟩ : ByteArray)).bind fun bt123 => (if t121.toList = ([5] : List UInt8) then (if t122 = 0 then (if bt123.2.2.2.2 = 0 then (some (bt123.1 == 1 && (bt123.2.1 == 2 && (bt123.2.2.1 == 0 && (bt123.2.2.2.1.toList == ([97, 98] : List UInt8)))))) else (some false)) else (some false)) else (some false))) = some r := H
  have A1 := Aside0.mk A10
  clear A10
  replace H := Option.bind_eq_some_iff.mp H
  obtain ⟨⟨t123, t124, t125, t126, t127⟩, A20, H⟩ := H
  replace H : (if t121.toList = ([5] : List UInt8) then (if t122 = 0 then (if t127 = 0 then (some (t123 == 1 && (t124 == 2 && (t125 == 0 && (t126.toList == ([97, 98] : List UInt8)))))) else (some false)) else (some false)) else (some false)) = some r := H
  have A2 := Aside0.mk A20
  clear A20
  by_cases c3 : t121.toList = ([5] : List UInt8)
  · rw [if_pos c3] at H
    have c3b0 : (t121.toList == ([5] : List UInt8)) = true := beq_iff_eq.mpr c3
    have c3b1 : (t121.toList != ([5] : List UInt8)) = false := bne_eq_false_iff_eq.mpr c3
    clear c3
    by_cases c4 : t122 = 0
    · rw [if_pos c4] at H
      have c4b0 : (t122 == 0) = true := beq_iff_eq.mpr c4
      have c4b1 : (t122 != 0) = false := bne_eq_false_iff_eq.mpr c4
      clear c4
      by_cases c5 : t127 = 0
      · rw [if_pos c5] at H
        have c5b0 : (t127 == 0) = true := beq_iff_eq.mpr c5
        have c5b1 : (t127 != 0) = false := bne_eq_false_iff_eq.mpr c5
        clear c5
        obtain rfl := Option.some.inj H
        go_enter Try.func7, Try.ntmps7
        go_wp2_with (first | ((with_reducible refine gate_callee (f := 8) rfl ?_); refine goesL_ (some 7) rfl rfl Try.func8 (by kernel_rfl) rfl #[.agg #[.int .i64 5, .int .i64 0, .int .i64 0, .string (⟨#[]⟩ : ByteArray)]] rfl (by (try simp only [List.map_toArray, List.map_cons, List.map_nil]); first | done | rfl | (simp only [List.length_drop, List.length_take]; rfl)) ?_; (with_reducible refine (opcode_Bytes.calls k 5 0 0 (⟨#[]⟩ : ByteArray) t121 t122 _ A1.out).mono ?_); rintro e w6 ⟨rfl, hb⟩; refine ⟨_, rfl, ?_⟩; have n0_ := Aside0.mk (below_step (by repeat (first | (with_reducible first | exact HB.out | apply below_alloc | apply pw_below_drewN | apply below_drew1) | exact HB.out)) hb); clear HB; have HB := n0_; clear n0_; (try clear hb); (try clear hb2); (try clear hk); (try clear hi)) | ((with_reducible refine gate_callee (f := 10) rfl ?_); refine goesL_ (some 11) rfl rfl Try.func10 (by kernel_rfl) rfl #[.string (⟨#[1, 2, 0, 0, 0, 97, 98]⟩ : ByteArray)] rfl (by (try simp only [List.map_toArray, List.map_cons, List.map_nil]); first | done | rfl | (simp only [List.length_drop, List.length_take]; rfl)) ?_; (with_reducible refine (opcode_Read.calls k (⟨#[1, 2, 0, 0, 0, 97, 98]⟩ : ByteArray) t123 t124 t125 t126 t127 _ A2.out).mono ?_); rintro e w7 ⟨rfl, hb⟩; refine ⟨_, rfl, ?_⟩; have n0_ := Aside0.mk (below_step (by repeat (first | (with_reducible first | exact HB.out | apply below_alloc | apply pw_below_drewN | apply below_drew1) | exact HB.out)) hb); clear HB; have HB := n0_; clear n0_; (try clear hb); (try clear hb2); (try clear hk); (try clear hi)) | ((with_reducible refine gate_dst (N := 3) rfl ?_); refine box_event ?hg (N := 3) ?hd (cs := #[.int .i64 0, .int .i64 0, .int .i64 0, .string (⟨#[]⟩ : ByteArray)]) (t := 23) ?hr ?_; (case hd => rfl); (case hg => rfl); (case hr => first | (go_simp; done) | (go_simp; rfl)); intro gb128 hg w8 hbox hb; have n0_ := Aside0.mk (below_step (by repeat (first | (with_reducible first | exact HB.out | apply below_alloc | apply pw_below_drewN | apply below_drew1) | exact HB.out)) hb); have n1_ := Aside0.mk (hbox); have n2_ := Aside0.mk ((by rw [hg]; exact (below_size (by repeat (first | (with_reducible first | exact HB.out | apply below_alloc | apply pw_below_drewN | apply below_drew1) | exact HB.out))) : w.heap.size ≤ gb128)); have n3_ := Aside0.mk ((by rw [hg]; exact (below_size (by repeat (first | (with_reducible first | exact HB.out | apply below_alloc | apply pw_below_drewN | apply below_drew1) | exact HB.out))) : w.heap.size ≤ gb128)); clear HB; have HB := n0_; have BK128 := n1_; have GW128 := n2_; have GE128 := n3_; clear n0_ n1_ n2_ n3_; clear hb hbox hg; have hcz9_0 : w8.cell? ⟨gb128, 0, none⟩ = some (.int .i64 0) := (blk_cell BK128.out 0).trans rfl; have hcz9_1 : w8.cell? ⟨gb128, 1, none⟩ = some (.int .i64 0) := (blk_cell BK128.out 1).trans rfl; have hcz9_2 : w8.cell? ⟨gb128, 2, none⟩ = some (.int .i64 0) := (blk_cell BK128.out 2).trans rfl; have hcz9_3 : w8.cell? ⟨gb128, 3, none⟩ = some (.string (⟨#[]⟩ : ByteArray)) := (blk_cell BK128.out 3).trans rfl; have hfz9_0 := blk_frozen BK128.out 0; have hfz9_1 := blk_frozen BK128.out 1; have hfz9_2 := blk_frozen BK128.out 2; have hfz9_3 := blk_frozen BK128.out 3))
        go_ret
        exact ⟨by first | rfl | (simp [errW_none, errW_some] <;> rfl) | (simp [*, errW_none, errW_some] <;> rfl), by repeat (first | (with_reducible first | exact HB.out | apply below_alloc | apply pw_below_drewN | apply below_drew1 | refine below_set ?_ GE128.out) | exact HB.out)⟩
      · rw [if_neg c5] at H
        have c5b0 : (t127 == 0) = false := beq_eq_false_iff_ne.mpr c5
        have c5b1 : (t127 != 0) = true := bne_iff_ne.mpr c5
        obtain rfl := Option.some.inj H
        go_enter Try.func7, Try.ntmps7
        go_wp2_with (first | ((with_reducible refine gate_callee (f := 8) rfl ?_); refine goesL_ (some 7) rfl rfl Try.func8 (by kernel_rfl) rfl #[.agg #[.int .i64 5, .int .i64 0, .int .i64 0, .string (⟨#[]⟩ : ByteArray)]] rfl (by (try simp only [List.map_toArray, List.map_cons, List.map_nil]); first | done | rfl | (simp only [List.length_drop, List.length_take]; rfl)) ?_; (with_reducible refine (opcode_Bytes.calls k 5 0 0 (⟨#[]⟩ : ByteArray) t121 t122 _ A1.out).mono ?_); rintro e w10 ⟨rfl, hb⟩; refine ⟨_, rfl, ?_⟩; have n0_ := Aside0.mk (below_step (by repeat (first | (with_reducible first | exact HB.out | apply below_alloc | apply pw_below_drewN | apply below_drew1) | exact HB.out)) hb); clear HB; have HB := n0_; clear n0_; (try clear hb); (try clear hb2); (try clear hk); (try clear hi)) | ((with_reducible refine gate_callee (f := 10) rfl ?_); refine goesL_ (some 11) rfl rfl Try.func10 (by kernel_rfl) rfl #[.string (⟨#[1, 2, 0, 0, 0, 97, 98]⟩ : ByteArray)] rfl (by (try simp only [List.map_toArray, List.map_cons, List.map_nil]); first | done | rfl | (simp only [List.length_drop, List.length_take]; rfl)) ?_; (with_reducible refine (opcode_Read.calls k (⟨#[1, 2, 0, 0, 0, 97, 98]⟩ : ByteArray) t123 t124 t125 t126 t127 _ A2.out).mono ?_); rintro e w11 ⟨rfl, hb⟩; refine ⟨_, rfl, ?_⟩; have n0_ := Aside0.mk (below_step (by repeat (first | (with_reducible first | exact HB.out | apply below_alloc | apply pw_below_drewN | apply below_drew1) | exact HB.out)) hb); clear HB; have HB := n0_; clear n0_; (try clear hb); (try clear hb2); (try clear hk); (try clear hi)) | ((with_reducible refine gate_dst (N := 3) rfl ?_); refine box_event ?hg (N := 3) ?hd (cs := #[.int .i64 0, .int .i64 0, .int .i64 0, .string (⟨#[]⟩ : ByteArray)]) (t := 23) ?hr ?_; (case hd => rfl); (case hg => rfl); (case hr => first | (go_simp; done) | (go_simp; rfl)); intro gb128 hg w12 hbox hb; have n0_ := Aside0.mk (below_step (by repeat (first | (with_reducible first | exact HB.out | apply below_alloc | apply pw_below_drewN | apply below_drew1) | exact HB.out)) hb); have n1_ := Aside0.mk (hbox); have n2_ := Aside0.mk ((by rw [hg]; exact (below_size (by repeat (first | (with_reducible first | exact HB.out | apply below_alloc | apply pw_below_drewN | apply below_drew1) | exact HB.out))) : w.heap.size ≤ gb128)); have n3_ := Aside0.mk ((by rw [hg]; exact (below_size (by repeat (first | (with_reducible first | exact HB.out | apply below_alloc | apply pw_below_drewN | apply below_drew1) | exact HB.out))) : w.heap.size ≤ gb128)); clear HB; have HB := n0_; have BK128 := n1_; have GW128 := n2_; have GE128 := n3_; clear n0_ n1_ n2_ n3_; clear hb hbox hg; have hcz13_0 : w12.cell? ⟨gb128, 0, none⟩ = some (.int .i64 0) := (blk_cell BK128.out 0).trans rfl; have hcz13_1 : w12.cell? ⟨gb128, 1, none⟩ = some (.int .i64 0) := (blk_cell BK128.out 1).trans rfl; have hcz13_2 : w12.cell? ⟨gb128, 2, none⟩ = some (.int .i64 0) := (blk_cell BK128.out 2).trans rfl; have hcz13_3 : w12.cell? ⟨gb128, 3, none⟩ = some (.string (⟨#[]⟩ : ByteArray)) := (blk_cell BK128.out 3).trans rfl; have hfz13_0 := blk_frozen BK128.out 0; have hfz13_1 := blk_frozen BK128.out 1; have hfz13_2 := blk_frozen BK128.out 2; have hfz13_3 := blk_frozen BK128.out 3))
        go_ret
        exact ⟨by first | rfl | (simp [errW_none, errW_some] <;> rfl) | (simp [*, errW_none, errW_some] <;> rfl), by repeat (first | (with_reducible first | exact HB.out | apply below_alloc | apply pw_below_drewN | apply below_drew1 | refine below_set ?_ GE128.out) | exact HB.out)⟩
    · rw [if_neg c4] at H
      have c4b0 : (t122 == 0) = false := beq_eq_false_iff_ne.mpr c4
      have c4b1 : (t122 != 0) = true := bne_iff_ne.mpr c4
      obtain rfl := Option.some.inj H
      go_enter Try.func7, Try.ntmps7
      go_wp2_with (first | ((with_reducible refine gate_callee (f := 8) rfl ?_); refine goesL_ (some 7) rfl rfl Try.func8 (by kernel_rfl) rfl #[.agg #[.int .i64 5, .int .i64 0, .int .i64 0, .string (⟨#[]⟩ : ByteArray)]] rfl (by (try simp only [List.map_toArray, List.map_cons, List.map_nil]); first | done | rfl | (simp only [List.length_drop, List.length_take]; rfl)) ?_; (with_reducible refine (opcode_Bytes.calls k 5 0 0 (⟨#[]⟩ : ByteArray) t121 t122 _ A1.out).mono ?_); rintro e w14 ⟨rfl, hb⟩; refine ⟨_, rfl, ?_⟩; have n0_ := Aside0.mk (below_step (by repeat (first | (with_reducible first | exact HB.out | apply below_alloc | apply pw_below_drewN | apply below_drew1) | exact HB.out)) hb); clear HB; have HB := n0_; clear n0_; (try clear hb); (try clear hb2); (try clear hk); (try clear hi)) | ((with_reducible refine gate_callee (f := 10) rfl ?_); refine goesL_ (some 11) rfl rfl Try.func10 (by kernel_rfl) rfl #[.string (⟨#[1, 2, 0, 0, 0, 97, 98]⟩ : ByteArray)] rfl (by (try simp only [List.map_toArray, List.map_cons, List.map_nil]); first | done | rfl | (simp only [List.length_drop, List.length_take]; rfl)) ?_; (with_reducible refine (opcode_Read.calls k (⟨#[1, 2, 0, 0, 0, 97, 98]⟩ : ByteArray) t123 t124 t125 t126 t127 _ A2.out).mono ?_); rintro e w15 ⟨rfl, hb⟩; refine ⟨_, rfl, ?_⟩; have n0_ := Aside0.mk (below_step (by repeat (first | (with_reducible first | exact HB.out | apply below_alloc | apply pw_below_drewN | apply below_drew1) | exact HB.out)) hb); clear HB; have HB := n0_; clear n0_; (try clear hb); (try clear hb2); (try clear hk); (try clear hi)) | ((with_reducible refine gate_dst (N := 3) rfl ?_); refine box_event ?hg (N := 3) ?hd (cs := #[.int .i64 0, .int .i64 0, .int .i64 0, .string (⟨#[]⟩ : ByteArray)]) (t := 23) ?hr ?_; (case hd => rfl); (case hg => rfl); (case hr => first | (go_simp; done) | (go_simp; rfl)); intro gb128 hg w16 hbox hb; have n0_ := Aside0.mk (below_step (by repeat (first | (with_reducible first | exact HB.out | apply below_alloc | apply pw_below_drewN | apply below_drew1) | exact HB.out)) hb); have n1_ := Aside0.mk (hbox); have n2_ := Aside0.mk ((by rw [hg]; exact (below_size (by repeat (first | (with_reducible first | exact HB.out | apply below_alloc | apply pw_below_drewN | apply below_drew1) | exact HB.out))) : w.heap.size ≤ gb128)); have n3_ := Aside0.mk ((by rw [hg]; exact (below_size (by repeat (first | (with_reducible first | exact HB.out | apply below_alloc | apply pw_below_drewN | apply below_drew1) | exact HB.out))) : w.heap.size ≤ gb128)); clear HB; have HB := n0_; have BK128 := n1_; have GW128 := n2_; have GE128 := n3_; clear n0_ n1_ n2_ n3_; clear hb hbox hg; have hcz17_0 : w16.cell? ⟨gb128, 0, none⟩ = some (.int .i64 0) := (blk_cell BK128.out 0).trans rfl; have hcz17_1 : w16.cell? ⟨gb128, 1, none⟩ = some (.int .i64 0) := (blk_cell BK128.out 1).trans rfl; have hcz17_2 : w16.cell? ⟨gb128, 2, none⟩ = some (.int .i64 0) := (blk_cell BK128.out 2).trans rfl; have hcz17_3 : w16.cell? ⟨gb128, 3, none⟩ = some (.string (⟨#[]⟩ : ByteArray)) := (blk_cell BK128.out 3).trans rfl; have hfz17_0 := blk_frozen BK128.out 0; have hfz17_1 := blk_frozen BK128.out 1; have hfz17_2 := blk_frozen BK128.out 2; have hfz17_3 := blk_frozen BK128.out 3))
      go_ret
      exact ⟨by first | rfl | (simp [errW_none, errW_some] <;> rfl) | (simp [*, errW_none, errW_some] <;> rfl), by repeat (first | (with_reducible first | exact HB.out | apply below_alloc | apply pw_below_drewN | apply below_drew1 | refine below_set ?_ GE128.out) | exact HB.out)⟩
  · rw [if_neg c3] at H
    have c3b0 : (t121.toList == ([5] : List UInt8)) = false := beq_eq_false_iff_ne.mpr c3
    have c3b1 : (t121.toList != ([5] : List UInt8)) = true := bne_iff_ne.mpr c3
    obtain rfl := Option.some.inj H
    go_enter Try.func7, Try.ntmps7
    go_wp2_with (first | ((with_reducible refine gate_callee (f := 8) rfl ?_); refine goesL_ (some 7) rfl rfl Try.func8 (by kernel_rfl) rfl #[.agg #[.int .i64 5, .int .i64 0, .int .i64 0, .string (⟨#[]⟩ : ByteArray)]] rfl (by (try simp only [List.map_toArray, List.map_cons, List.map_nil]); first | done | rfl | (simp only [List.length_drop, List.length_take]; rfl)) ?_; (with_reducible refine (opcode_Bytes.calls k 5 0 0 (⟨#[]⟩ : ByteArray) t121 t122 _ A1.out).mono ?_); rintro e w18 ⟨rfl, hb⟩; refine ⟨_, rfl, ?_⟩; have n0_ := Aside0.mk (below_step (by repeat (first | (with_reducible first | exact HB.out | apply below_alloc | apply pw_below_drewN | apply below_drew1) | exact HB.out)) hb); clear HB; have HB := n0_; clear n0_; (try clear hb); (try clear hb2); (try clear hk); (try clear hi)) | ((with_reducible refine gate_callee (f := 10) rfl ?_); refine goesL_ (some 11) rfl rfl Try.func10 (by kernel_rfl) rfl #[.string (⟨#[1, 2, 0, 0, 0, 97, 98]⟩ : ByteArray)] rfl (by (try simp only [List.map_toArray, List.map_cons, List.map_nil]); first | done | rfl | (simp only [List.length_drop, List.length_take]; rfl)) ?_; (with_reducible refine (opcode_Read.calls k (⟨#[1, 2, 0, 0, 0, 97, 98]⟩ : ByteArray) t123 t124 t125 t126 t127 _ A2.out).mono ?_); rintro e w19 ⟨rfl, hb⟩; refine ⟨_, rfl, ?_⟩; have n0_ := Aside0.mk (below_step (by repeat (first | (with_reducible first | exact HB.out | apply below_alloc | apply pw_below_drewN | apply below_drew1) | exact HB.out)) hb); clear HB; have HB := n0_; clear n0_; (try clear hb); (try clear hb2); (try clear hk); (try clear hi)) | ((with_reducible refine gate_dst (N := 3) rfl ?_); refine box_event ?hg (N := 3) ?hd (cs := #[.int .i64 0, .int .i64 0, .int .i64 0, .string (⟨#[]⟩ : ByteArray)]) (t := 23) ?hr ?_; (case hd => rfl); (case hg => rfl); (case hr => first | (go_simp; done) | (go_simp; rfl)); intro gb128 hg w20 hbox hb; have n0_ := Aside0.mk (below_step (by repeat (first | (with_reducible first | exact HB.out | apply below_alloc | apply pw_below_drewN | apply below_drew1) | exact HB.out)) hb); have n1_ := Aside0.mk (hbox); have n2_ := Aside0.mk ((by rw [hg]; exact (below_size (by repeat (first | (with_reducible first | exact HB.out | apply below_alloc | apply pw_below_drewN | apply below_drew1) | exact HB.out))) : w.heap.size ≤ gb128)); have n3_ := Aside0.mk ((by rw [hg]; exact (below_size (by repeat (first | (with_reducible first | exact HB.out | apply below_alloc | apply pw_below_drewN | apply below_drew1) | exact HB.out))) : w.heap.size ≤ gb128)); clear HB; have HB := n0_; have BK128 := n1_; have GW128 := n2_; have GE128 := n3_; clear n0_ n1_ n2_ n3_; clear hb hbox hg; have hcz21_0 : w20.cell? ⟨gb128, 0, none⟩ = some (.int .i64 0) := (blk_cell BK128.out 0).trans rfl; have hcz21_1 : w20.cell? ⟨gb128, 1, none⟩ = some (.int .i64 0) := (blk_cell BK128.out 1).trans rfl; have hcz21_2 : w20.cell? ⟨gb128, 2, none⟩ = some (.int .i64 0) := (blk_cell BK128.out 2).trans rfl; have hcz21_3 : w20.cell? ⟨gb128, 3, none⟩ = some (.string (⟨#[]⟩ : ByteArray)) := (blk_cell BK128.out 3).trans rfl; have hfz21_0 := blk_frozen BK128.out 0; have hfz21_1 := blk_frozen BK128.out 1; have hfz21_2 := blk_frozen BK128.out 2; have hfz21_3 := blk_frozen BK128.out 3))
    go_ret
    exact ⟨by first | rfl | (simp [errW_none, errW_some] <;> rfl) | (simp [*, errW_none, errW_some] <;> rfl), by repeat (first | (with_reducible first | exact HB.out | apply below_alloc | apply pw_below_drewN | apply below_drew1 | refine below_set ?_ GE128.out) | exact HB.out)⟩

/-! ### stylusref14_MayMark: function 17 -/
def stylusref14_MayMark.l0 : Nat → ByteArray → Int → Option (Bool)
  | 0, _, _ => none
  | k + 1, x0, x3 => if x3 < (x0.size : Int) then (if 0 ≤ x3 then (if (bt x0 x3) < 97 then (some false) else (if (bt x0 x3) > 122 then (some false) else (stylusref14_MayMark.l0 k x0 (wrap64 (x3 + 1))))) else (none)) else (if (x0.size : Int) ≥ 1 then (some (decide ((x0.size : Int) ≤ 8))) else (some false))
def stylusref14_MayMark.f (k : Nat) (a0 : ByteArray) : Option (Bool) := stylusref14_MayMark.l0 k a0 0
theorem stylusref14_MayMark.mono_l : ∀ k, (∀ y0 y1, LeO (stylusref14_MayMark.l0 k y0 y1) (stylusref14_MayMark.l0 (k + 1) y0 y1))
  | 0 => fun _ _ r h => by simp [stylusref14_MayMark.l0] at h
  | k + 1 => by
    have ih0 := stylusref14_MayMark.mono_l k
    · intro y0 y1
      unfold stylusref14_MayMark.l0
      repeat' first
      | (with_reducible exact ih0 _ _)
      | (with_reducible exact LeO.refl _)
      | (with_reducible exact LeO.none _)
      | (with_reducible refine LeO.ite ?_ ?_)
      | (with_reducible refine LeO.bind ?_ (fun _ => ?_))
      | exact ih0 _ _
      | exact LeO.none _
      | refine LeO.ite ?_ ?_
      | refine LeO.bind ?_ (fun _ => ?_)
theorem stylusref14_MayMark.mono : ∀ a0 k, LeO (stylusref14_MayMark.f k a0) (stylusref14_MayMark.f (k + 1) a0) := by
  intro a0 k
  have ih0 := stylusref14_MayMark.mono_l k
  unfold stylusref14_MayMark.f
  repeat' first
      | (with_reducible exact ih0 _ _)
      | (with_reducible exact LeO.refl _)
      | (with_reducible exact LeO.none _)
      | (with_reducible refine LeO.ite ?_ ?_)
      | (with_reducible refine LeO.bind ?_ (fun _ => ?_))
      | exact ih0 _ _
      | exact LeO.none _
      | refine LeO.ite ?_ ?_
      | refine LeO.bind ?_ (fun _ => ?_)
set_option maxHeartbeats 8000000 in
set_option maxRecDepth 100000 in
theorem stylusref14_MayMark.calls (k : Nat) (a0 : ByteArray) (r : Bool) (w : World) (h : stylusref14_MayMark.f k a0 = some r) :
    Calls Try.prog 17 #[.string a0] w fun e w' => e = .returned (.bool r) ∧ Drawn0 w w' := by
  have H : (stylusref14_MayMark.l0 k a0 0) = some r := h
  clear h
  have H' := Aside0.mk H
  clear H
  go_enter Try.func17, Try.ntmps17
  go_wp2
  go_loopg [3] k (fun kq v3 w' => ∃ (x3_1 : Int), v3 = .int .i64 x3_1 ∧ Aside0 (stylusref14_MayMark.l0 kq a0 x3_1 = some r) ∧ Aside0 (kq ≤ k) ∧ Drawn0 w w')
  case atStart => exact ⟨(0), (by first | rfl | (simp; done) | (simp [*]; done)), H', ⟨Nat.le_refl _⟩, by repeat (first | exact Drawn0.refl _ | apply Drawn0.step)⟩
  case round =>
    clear H'
    try clear c1
    obtain ⟨x3_1, rfl, HA, HK1, ⟨m1, rfl⟩⟩ := hrel
    cases gk with
    | zero => exact absurd HA.out (by simp [stylusref14_MayMark.l0])
    | succ k1 =>
      have H := HA.out
      clear HA
      simp only [stylusref14_MayMark.l0] at H
      by_cases c2 : x3_1 < (a0.size : Int)
      · rw [if_pos c2] at H
        have c2b0 : decide (x3_1 < (a0.size : Int)) = true := decide_eq_true c2
        clear c2
        by_cases c3 : 0 ≤ x3_1
        · rw [if_pos c3] at H
          have c3b0 : decide (0 ≤ x3_1) = true := decide_eq_true c3
          clear c3
          by_cases c5 : (bt a0 x3_1) < 97
          · rw [if_pos c5] at H
            have c5b0 : decide ((bt a0 x3_1) < 97) = true := decide_eq_true c5
            clear c5
            obtain rfl := Option.some.inj H
            have p4 : 0 ≤ (x3_1 : Int) := of_decide_eq_true (by first | (with_reducible assumption) | assumption)
            have q4 : x3_1 < (a0.size : Int) := of_decide_eq_true (by first | (with_reducible assumption) | assumption)
            have hx4 := bt_at a0 x3_1
            replace p4 := eq_true p4
            replace q4 := eq_true q4
            go_wp2
            go_ret
            exact ⟨by first | rfl | (simp; done) | (simp [*]; done), by repeat (first | exact Drawn0.refl _ | apply Drawn0.step)⟩
          · rw [if_neg c5] at H
            have c5b0 : decide ((bt a0 x3_1) < 97) = false := decide_eq_false c5
            clear c5
            by_cases c7 : (bt a0 x3_1) > 122
            · rw [if_pos c7] at H
              have c7b0 : decide (122 < (bt a0 x3_1)) = true := decide_eq_true c7
              clear c7
              obtain rfl := Option.some.inj H
              have p4 : 0 ≤ (x3_1 : Int) := of_decide_eq_true (by first | (with_reducible assumption) | assumption)
              have q4 : x3_1 < (a0.size : Int) := of_decide_eq_true (by first | (with_reducible assumption) | assumption)
              have hx4 := bt_at a0 x3_1
              replace p4 := eq_true p4
              replace q4 := eq_true q4
              have p6 : 0 ≤ (x3_1 : Int) := of_decide_eq_true (by first | (with_reducible assumption) | assumption)
              have q6 : x3_1 < (a0.size : Int) := of_decide_eq_true (by first | (with_reducible assumption) | assumption)
              have hx6 := bt_at a0 x3_1
              replace p6 := eq_true p6
              replace q6 := eq_true q6
              go_wp2
              go_ret
              exact ⟨by first | rfl | (simp; done) | (simp [*]; done), by repeat (first | exact Drawn0.refl _ | apply Drawn0.step)⟩
            · rw [if_neg c7] at H
              have c7b0 : decide (122 < (bt a0 x3_1)) = false := decide_eq_false c7
              clear c7
              have H' := Aside0.mk H
              clear H
              have p4 : 0 ≤ (x3_1 : Int) := of_decide_eq_true (by first | (with_reducible assumption) | assumption)
              have q4 : x3_1 < (a0.size : Int) := of_decide_eq_true (by first | (with_reducible assumption) | assumption)
              have hx4 := bt_at a0 x3_1
              replace p4 := eq_true p4
              replace q4 := eq_true q4
              have p6 : 0 ≤ (x3_1 : Int) := of_decide_eq_true (by first | (with_reducible assumption) | assumption)
              have q6 : x3_1 < (a0.size : Int) := of_decide_eq_true (by first | (with_reducible assumption) | assumption)
              have hx6 := bt_at a0 x3_1
              replace p6 := eq_true p6
              replace q6 := eq_true q6
              go_wp2
              go_roundg k1
              case measure => have := HK1.out; omega
              case rel => exact ⟨(wrap64 (x3_1 + 1)), (by first | rfl | (simp; done) | (simp [*]; done)), H', ⟨by have := HK1.out; omega⟩, by repeat (first | exact Drawn0.refl _ | apply Drawn0.step)⟩
        · rw [if_neg c3] at H
          exact absurd H (by simp)
      · rw [if_neg c2] at H
        have c2b0 : decide (x3_1 < (a0.size : Int)) = false := decide_eq_false c2
        clear c2
        by_cases c8 : (a0.size : Int) ≥ 1
        · rw [if_pos c8] at H
          have c8b0 : decide (1 ≤ (a0.size : Int)) = true := decide_eq_true c8
          have c8b1 : decide (1 ≤ a0.size) = true := decide_eq_true (by omega)
          clear c8
          obtain rfl := Option.some.inj H
          go_wp2
          go_ret
          exact ⟨by first | rfl | (simp; done) | (simp [*]; done), by repeat (first | exact Drawn0.refl _ | apply Drawn0.step)⟩
        · rw [if_neg c8] at H
          have c8b0 : decide (1 ≤ (a0.size : Int)) = false := decide_eq_false c8
          have c8b1 : decide (1 ≤ a0.size) = false := decide_eq_false (by omega)
          clear c8
          obtain rfl := Option.some.inj H
          go_wp2
          go_ret
          exact ⟨by first | rfl | (simp; done) | (simp [*]; done), by repeat (first | exact Drawn0.refl _ | apply Drawn0.step)⟩

/-! ### stylusref14_place: function 24 -/
def stylusref14_place.f (a0 : Int) : Option (Bool) := if a0 ≥ 0 then (some (decide (a0 ≤ 4096))) else (some false)
set_option maxHeartbeats 8000000 in
set_option maxRecDepth 100000 in
theorem stylusref14_place.calls (a0 : Int) (r : Bool) (w : World) (h : stylusref14_place.f a0 = some r) :
    Calls Try.prog 24 #[.int .i64 a0] w fun e w' => e = .returned (.bool r) ∧ Drawn0 w w' := by
  have H : (if a0 ≥ 0 then (some (decide (a0 ≤ 4096))) else (some false)) = some r := h
  clear h
  by_cases c2 : a0 ≥ 0
  · rw [if_pos c2] at H
    have c2b0 : decide (0 ≤ a0) = true := decide_eq_true c2
    clear c2
    obtain rfl := Option.some.inj H
    go_enter Try.func24, Try.ntmps24
    go_wp2
    go_ret
    exact ⟨by first | rfl | (simp; done) | (simp [*]; done), by repeat (first | exact Drawn0.refl _ | apply Drawn0.step)⟩
  · rw [if_neg c2] at H
    have c2b0 : decide (0 ≤ a0) = false := decide_eq_false c2
    clear c2
    obtain rfl := Option.some.inj H
    go_enter Try.func24, Try.ntmps24
    go_wp2
    go_ret
    exact ⟨by first | rfl | (simp; done) | (simp [*]; done), by repeat (first | exact Drawn0.refl _ | apply Drawn0.step)⟩

/-! ### stylusref01_number: function 39 -/
mutual
def stylusref01_number.j0 : Nat → ByteArray → Int → Option (Int)
  | 0, _, _ => none
  | k + 1, x0, x3 => if x3 < 0 then (some (-1)) else (stylusref01_number.l0 k x0 x3 1)
def stylusref01_number.l0 : Nat → ByteArray → Int → Int → Option (Int)
  | 0, _, _, _ => none
  | k + 1, x0, x3, x4 => if x4 < (x0.size : Int) then (if 0 ≤ x4 then (stylusref01_number.l0 k x0 (wrap64 ((wrap64 (64 * x3)) + (Int.tmod (wrap64 (bt x0 x4)) 64))) (wrap64 (x4 + 1))) else (none)) else (some x3)
end
def stylusref01_number.f (k : Nat) (a0 : ByteArray) : Option (Int) := if 0 < (a0.size : Int) then (if (a0.size : Int) = 1 then (some (wrap64 (bt a0 0))) else (if (a0.size : Int) = 2 then (stylusref01_number.j0 k a0 (wrap64 ((wrap64 (bt a0 0)) - 192))) else (if (a0.size : Int) = 3 then (stylusref01_number.j0 k a0 (wrap64 ((wrap64 (bt a0 0)) - 224))) else (stylusref01_number.j0 k a0 (wrap64 ((wrap64 (bt a0 0)) - 240)))))) else (none)
theorem stylusref01_number.mono_l : ∀ k, (∀ y0 y1, LeO (stylusref01_number.j0 k y0 y1) (stylusref01_number.j0 (k + 1) y0 y1)) ∧ (∀ y0 y1 y2, LeO (stylusref01_number.l0 k y0 y1 y2) (stylusref01_number.l0 (k + 1) y0 y1 y2))
  | 0 => ⟨fun _ _ r h => by simp [stylusref01_number.j0] at h, fun _ _ _ r h => by simp [stylusref01_number.l0] at h⟩
  | k + 1 => by
    obtain ⟨ih0, ih1⟩ := stylusref01_number.mono_l k
    refine ⟨?_, ?_⟩
    · intro y0 y1
      unfold stylusref01_number.j0
      repeat' first
      | (with_reducible exact ih0 _ _)
      | (with_reducible exact ih1 _ _ _)
      | (with_reducible exact LeO.refl _)
      | (with_reducible exact LeO.none _)
      | (with_reducible refine LeO.ite ?_ ?_)
      | (with_reducible refine LeO.bind ?_ (fun _ => ?_))
      | exact ih0 _ _
      | exact ih1 _ _ _
      | exact LeO.none _
      | refine LeO.ite ?_ ?_
      | refine LeO.bind ?_ (fun _ => ?_)
    · intro y0 y1 y2
      unfold stylusref01_number.l0
      repeat' first
      | (with_reducible exact ih0 _ _)
      | (with_reducible exact ih1 _ _ _)
      | (with_reducible exact LeO.refl _)
      | (with_reducible exact LeO.none _)
      | (with_reducible refine LeO.ite ?_ ?_)
      | (with_reducible refine LeO.bind ?_ (fun _ => ?_))
      | exact ih0 _ _
      | exact ih1 _ _ _
      | exact LeO.none _
      | refine LeO.ite ?_ ?_
      | refine LeO.bind ?_ (fun _ => ?_)
theorem stylusref01_number.mono : ∀ a0 k, LeO (stylusref01_number.f k a0) (stylusref01_number.f (k + 1) a0) := by
  intro a0 k
  obtain ⟨ih0, ih1⟩ := stylusref01_number.mono_l k
  unfold stylusref01_number.f
  repeat' first
      | (with_reducible exact ih0 _ _)
      | (with_reducible exact ih1 _ _ _)
      | (with_reducible exact LeO.refl _)
      | (with_reducible exact LeO.none _)
      | (with_reducible refine LeO.ite ?_ ?_)
      | (with_reducible refine LeO.bind ?_ (fun _ => ?_))
      | exact ih0 _ _
      | exact ih1 _ _ _
      | exact LeO.none _
      | refine LeO.ite ?_ ?_
      | refine LeO.bind ?_ (fun _ => ?_)
set_option maxHeartbeats 8000000 in
set_option maxRecDepth 100000 in
theorem stylusref01_number.calls (k : Nat) (a0 : ByteArray) (r : Int) (w : World) (h : stylusref01_number.f k a0 = some r) :
    Calls Try.prog 39 #[.string a0] w fun e w' => e = .returned (.int .i64 r) ∧ Drawn0 w w' := by
  have H : (if 0 < (a0.size : Int) then (if (a0.size : Int) = 1 then (some (wrap64 (bt a0 0))) else (if (a0.size : Int) = 2 then (stylusref01_number.j0 k a0 (wrap64 ((wrap64 (bt a0 0)) - 192))) else (if (a0.size : Int) = 3 then (stylusref01_number.j0 k a0 (wrap64 ((wrap64 (bt a0 0)) - 224))) else (stylusref01_number.j0 k a0 (wrap64 ((wrap64 (bt a0 0)) - 240)))))) else (none)) = some r := h
  clear h
  by_cases c2 : 0 < (a0.size : Int)
  · rw [if_pos c2] at H
    have c2b0 : decide (0 < (a0.size : Int)) = true := decide_eq_true c2
    have c2b1 : decide (0 < a0.size) = true := decide_eq_true (by omega)
    clear c2
    have HC4 := Aside0.mk H
    clear H
    have p3 : 0 ≤ (0 : Int) := (by omega)
    have q3 : 0 < a0.size := (by have : (0 : Int) < (a0.size : Int) := of_decide_eq_true (by first | (with_reducible assumption) | assumption); omega)
    have hx3 : ∀ h : 0 < a0.size, ((a0[0]'h).toNat : Int) = bt a0 0 := bt_at a0 0
    clear p3
    have qi3 : (0 < (a0.size : Int)) = True := eq_true (of_decide_eq_true (by first | (with_reducible assumption) | assumption))
    replace q3 := eq_true q3
    go_enter Try.func39, Try.ntmps39
    go_upto_block 0 with (fail)
    go_cut [3] (fun v3 wc => ∃ (kq : Nat) (x3_3 : Int), v3 = .int .i64 x3_3 ∧ Aside0 (stylusref01_number.j0 kq a0 x3_3 = some r) ∧ Aside0 (kq ≤ k) ∧ Drawn0 w wc)
    case first =>
      have H := HC4.out
      clear HC4
      by_cases c5 : (a0.size : Int) = 1
      · rw [if_pos c5] at H
        have c5b0 : ((a0.size : Int) == 1) = true := beq_iff_eq.mpr c5
        have c5b1 : ((a0.size : Int) != 1) = false := bne_eq_false_iff_eq.mpr c5
        clear c5
        (first | rw [c5b0] | (simp only [i64_w, i32_w]; rw [c5b0]) | skip)
        obtain rfl := Option.some.inj H
        go_wp2
        go_ret
        exact ⟨by first | rfl | (simp; done) | (simp [*]; done), by repeat (first | exact Drawn0.refl _ | apply Drawn0.step)⟩
      · rw [if_neg c5] at H
        have c5b0 : ((a0.size : Int) == 1) = false := beq_eq_false_iff_ne.mpr c5
        have c5b1 : ((a0.size : Int) != 1) = true := bne_iff_ne.mpr c5
        (first | rw [c5b0] | (simp only [i64_w, i32_w]; rw [c5b0]) | skip)
        by_cases c6 : (a0.size : Int) = 2
        · rw [if_pos c6] at H
          have c6b0 : ((a0.size : Int) == 2) = true := beq_iff_eq.mpr c6
          have c6b1 : ((a0.size : Int) != 2) = false := bne_eq_false_iff_eq.mpr c6
          clear c6
          have H' := Aside0.mk H
          clear H
          go_wp2
          go_meet
          case rel => exact ⟨_, (wrap64 ((wrap64 (bt a0 0)) - 192)), (by first | rfl | (simp; done) | (simp [*]; done)), H', ⟨by first | omega | exact Nat.le_refl _⟩, by repeat (first | exact Drawn0.refl _ | apply Drawn0.step)⟩
        · rw [if_neg c6] at H
          have c6b0 : ((a0.size : Int) == 2) = false := beq_eq_false_iff_ne.mpr c6
          have c6b1 : ((a0.size : Int) != 2) = true := bne_iff_ne.mpr c6
          by_cases c7 : (a0.size : Int) = 3
          · rw [if_pos c7] at H
            have c7b0 : ((a0.size : Int) == 3) = true := beq_iff_eq.mpr c7
            have c7b1 : ((a0.size : Int) != 3) = false := bne_eq_false_iff_eq.mpr c7
            clear c7
            have H' := Aside0.mk H
            clear H
            go_wp2
            go_meet
            case rel => exact ⟨_, (wrap64 ((wrap64 (bt a0 0)) - 224)), (by first | rfl | (simp; done) | (simp [*]; done)), H', ⟨by first | omega | exact Nat.le_refl _⟩, by repeat (first | exact Drawn0.refl _ | apply Drawn0.step)⟩
          · rw [if_neg c7] at H
            have c7b0 : ((a0.size : Int) == 3) = false := beq_eq_false_iff_ne.mpr c7
            have c7b1 : ((a0.size : Int) != 3) = true := bne_iff_ne.mpr c7
            have H' := Aside0.mk H
            clear H
            go_wp2
            go_meet
            case rel => exact ⟨_, (wrap64 ((wrap64 (bt a0 0)) - 240)), (by first | rfl | (simp; done) | (simp [*]; done)), H', ⟨by first | omega | exact Nat.le_refl _⟩, by repeat (first | exact Drawn0.refl _ | apply Drawn0.step)⟩
    case rest =>
      clear HC4
      try clear c2
      try clear c2b0
      try clear c2b1
      try clear p2
      try clear c3
      try clear p3
      try clear q3
      try clear hx3
      try clear qi3
      try clear c5
      try clear c5b0
      try clear c5b1
      try clear c6
      try clear c6b0
      try clear c6b1
      try clear p6
      try clear c7
      try clear c7b0
      try clear c7b1
      try clear p3
      try clear q3
      obtain ⟨kq, x3_3, rfl, HA, HJ3, ⟨mc3, rfl⟩⟩ := hcut
      cases kq with
      | zero => exact absurd HA.out (by simp [stylusref01_number.j0])
      | succ kj3 =>
        have H := HA.out
        clear HA
        simp only [stylusref01_number.j0] at H
        by_cases c8 : x3_3 < 0
        · rw [if_pos c8] at H
          have c8b0 : decide (x3_3 < 0) = true := decide_eq_true c8
          clear c8
          obtain rfl := Option.some.inj H
          go_wp2
          go_ret
          exact ⟨by first | rfl | (simp; done) | (simp [*]; done), by repeat (first | exact Drawn0.refl _ | apply Drawn0.step)⟩
        · rw [if_neg c8] at H
          have c8b0 : decide (x3_3 < 0) = false := decide_eq_false c8
          clear c8
          have H' := Aside0.mk H
          clear H
          go_wp2
          go_loopg [3, 4] kj3 (fun kq v3 v4 w' => ∃ (x3_2 : Int) (x4_2 : Int), v3 = .int .i64 x3_2 ∧ v4 = .int .i64 x4_2 ∧ Aside0 (stylusref01_number.l0 kq a0 x3_2 x4_2 = some r) ∧ Aside0 (kq ≤ kj3) ∧ Drawn0 w w')
          case atStart => exact ⟨(x3_3), (1), (by first | rfl | (simp; done) | (simp [*]; done)), (by first | rfl | (simp; done) | (simp [*]; done)), H', ⟨Nat.le_refl _⟩, by repeat (first | exact Drawn0.refl _ | apply Drawn0.step)⟩
          case round =>
            clear H'
            try clear c2
            try clear c2b0
            try clear c2b1
            try clear p2
            try clear c3
            try clear p3
            try clear q3
            try clear hx3
            try clear qi3
            try clear c5
            try clear c5b0
            try clear c5b1
            try clear c6
            try clear c6b0
            try clear c6b1
            try clear p6
            try clear c7
            try clear c7b0
            try clear c7b1
            try clear c8
            try clear c8b0
            try clear p2
            try clear p3
            try clear p6
            try clear q3
            obtain ⟨x3_2, x4_2, rfl, rfl, HA, HK2, ⟨m2, rfl⟩⟩ := hrel
            cases gk with
            | zero => exact absurd HA.out (by simp [stylusref01_number.l0])
            | succ k2 =>
              have H := HA.out
              clear HA
              simp only [stylusref01_number.l0] at H
              by_cases c9 : x4_2 < (a0.size : Int)
              · rw [if_pos c9] at H
                have c9b0 : decide (x4_2 < (a0.size : Int)) = true := decide_eq_true c9
                clear c9
                by_cases c10 : 0 ≤ x4_2
                · rw [if_pos c10] at H
                  have c10b0 : decide (0 ≤ x4_2) = true := decide_eq_true c10
                  clear c10
                  have H' := Aside0.mk H
                  clear H
                  have p11 : 0 ≤ (x4_2 : Int) := of_decide_eq_true (by first | (with_reducible assumption) | assumption)
                  have q11 : x4_2 < (a0.size : Int) := of_decide_eq_true (by first | (with_reducible assumption) | assumption)
                  have hx11 := bt_at a0 x4_2
                  replace p11 := eq_true p11
                  replace q11 := eq_true q11
                  go_wp2
                  go_roundg k2
                  case measure => have := HJ3.out; have := HK2.out; omega
                  case rel => exact ⟨(wrap64 ((wrap64 (64 * x3_2)) + (Int.tmod (wrap64 (bt a0 x4_2)) 64))), (wrap64 (x4_2 + 1)), (by first | rfl | (simp; done) | (simp [*]; done)), (by first | rfl | (simp; done) | (simp [*]; done)), H', ⟨by have := HJ3.out; have := HK2.out; omega⟩, by repeat (first | exact Drawn0.refl _ | apply Drawn0.step)⟩
                · rw [if_neg c10] at H
                  exact absurd H (by simp)
              · rw [if_neg c9] at H
                have c9b0 : decide (x4_2 < (a0.size : Int)) = false := decide_eq_false c9
                clear c9
                obtain rfl := Option.some.inj H
                go_wp2
                go_ret
                exact ⟨by first | rfl | (simp; done) | (simp [*]; done), by repeat (first | exact Drawn0.refl _ | apply Drawn0.step)⟩
  · rw [if_neg c2] at H
    exact absurd H (by simp)

/-! ### stylusref01_ok: function 41 -/
def stylusref01_ok.f (a0 : Int) : Option (Bool) := if a0 ≥ 0 then (if a0 ≤ 1114111 then (if a0 ≥ 55296 then (some (!(decide (a0 ≤ 57343)))) else (some (!false))) else (some false)) else (some false)
set_option maxHeartbeats 8000000 in
set_option maxRecDepth 100000 in
theorem stylusref01_ok.calls (a0 : Int) (r : Bool) (w : World) (h : stylusref01_ok.f a0 = some r) :
    Calls Try.prog 41 #[.int .i64 a0] w fun e w' => e = .returned (.bool r) ∧ Drawn0 w w' := by
  have H : (if a0 ≥ 0 then (if a0 ≤ 1114111 then (if a0 ≥ 55296 then (some (!(decide (a0 ≤ 57343)))) else (some (!false))) else (some false)) else (some false)) = some r := h
  clear h
  by_cases c2 : a0 ≥ 0
  · rw [if_pos c2] at H
    have c2b0 : decide (0 ≤ a0) = true := decide_eq_true c2
    clear c2
    by_cases c3 : a0 ≤ 1114111
    · rw [if_pos c3] at H
      have c3b0 : decide (a0 ≤ 1114111) = true := decide_eq_true c3
      clear c3
      by_cases c4 : a0 ≥ 55296
      · rw [if_pos c4] at H
        have c4b0 : decide (55296 ≤ a0) = true := decide_eq_true c4
        clear c4
        obtain rfl := Option.some.inj H
        go_enter Try.func41, Try.ntmps41
        go_wp2
        go_ret
        exact ⟨by first | rfl | (simp; done) | (simp [*]; done), by repeat (first | exact Drawn0.refl _ | apply Drawn0.step)⟩
      · rw [if_neg c4] at H
        have c4b0 : decide (55296 ≤ a0) = false := decide_eq_false c4
        clear c4
        obtain rfl := Option.some.inj H
        go_enter Try.func41, Try.ntmps41
        go_wp2
        go_ret
        exact ⟨by first | rfl | (simp; done) | (simp [*]; done), by repeat (first | exact Drawn0.refl _ | apply Drawn0.step)⟩
    · rw [if_neg c3] at H
      have c3b0 : decide (a0 ≤ 1114111) = false := decide_eq_false c3
      clear c3
      obtain rfl := Option.some.inj H
      go_enter Try.func41, Try.ntmps41
      go_wp2
      go_ret
      exact ⟨by first | rfl | (simp; done) | (simp [*]; done), by repeat (first | exact Drawn0.refl _ | apply Drawn0.step)⟩
  · rw [if_neg c2] at H
    have c2b0 : decide (0 ≤ a0) = false := decide_eq_false c2
    clear c2
    obtain rfl := Option.some.inj H
    go_enter Try.func41, Try.ntmps41
    go_wp2
    go_ret
    exact ⟨by first | rfl | (simp; done) | (simp [*]; done), by repeat (first | exact Drawn0.refl _ | apply Drawn0.step)⟩

/-! ### stylusref01_octets: function 42 -/
def stylusref01_octets.f (a0 : Int) : Option (Int) := if a0 < 128 then (some 1) else (if a0 < 2048 then (some 2) else (if a0 < 65536 then (some 3) else (some 4)))
set_option maxHeartbeats 8000000 in
set_option maxRecDepth 100000 in
theorem stylusref01_octets.calls (a0 : Int) (r : Int) (w : World) (h : stylusref01_octets.f a0 = some r) :
    Calls Try.prog 42 #[.int .i64 a0] w fun e w' => e = .returned (.int .i64 r) ∧ Drawn0 w w' := by
  have H : (if a0 < 128 then (some 1) else (if a0 < 2048 then (some 2) else (if a0 < 65536 then (some 3) else (some 4)))) = some r := h
  clear h
  by_cases c2 : a0 < 128
  · rw [if_pos c2] at H
    have c2b0 : decide (a0 < 128) = true := decide_eq_true c2
    clear c2
    obtain rfl := Option.some.inj H
    go_enter Try.func42, Try.ntmps42
    go_wp2
    go_ret
    exact ⟨by first | rfl | (simp; done) | (simp [*]; done), by repeat (first | exact Drawn0.refl _ | apply Drawn0.step)⟩
  · rw [if_neg c2] at H
    have c2b0 : decide (a0 < 128) = false := decide_eq_false c2
    clear c2
    by_cases c3 : a0 < 2048
    · rw [if_pos c3] at H
      have c3b0 : decide (a0 < 2048) = true := decide_eq_true c3
      clear c3
      obtain rfl := Option.some.inj H
      go_enter Try.func42, Try.ntmps42
      go_wp2
      go_ret
      exact ⟨by first | rfl | (simp; done) | (simp [*]; done), by repeat (first | exact Drawn0.refl _ | apply Drawn0.step)⟩
    · rw [if_neg c3] at H
      have c3b0 : decide (a0 < 2048) = false := decide_eq_false c3
      clear c3
      by_cases c4 : a0 < 65536
      · rw [if_pos c4] at H
        have c4b0 : decide (a0 < 65536) = true := decide_eq_true c4
        clear c4
        obtain rfl := Option.some.inj H
        go_enter Try.func42, Try.ntmps42
        go_wp2
        go_ret
        exact ⟨by first | rfl | (simp; done) | (simp [*]; done), by repeat (first | exact Drawn0.refl _ | apply Drawn0.step)⟩
      · rw [if_neg c4] at H
        have c4b0 : decide (a0 < 65536) = false := decide_eq_false c4
        clear c4
        obtain rfl := Option.some.inj H
        go_enter Try.func42, Try.ntmps42
        go_wp2
        go_ret
        exact ⟨by first | rfl | (simp; done) | (simp [*]; done), by repeat (first | exact Drawn0.refl _ | apply Drawn0.step)⟩

end Go.Proofs.Ytgabhndhnjedpaa.P
