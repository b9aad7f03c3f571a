-- Laid by a program of this session (wip/tools/fork_print.py over the kit's print) out of Lean's print of the translation. Lean checks it.
import Derived.Test.YtgabhndhnjedpaaPx0
import Derived.Test.YtgabhndhnjedpaaPx2
namespace Go.Proofs.Ytgabhndhnjedpaa.P
open Go.RowKit Go.Proofs.YtgabhndhnjedpaaW.PrintWords Go.Proofs.YtgabhndhnjedpaaW.PrintLast Go.Proofs.YtgabhndhnjedpaaW.PrintMore
attribute [local go_sem] max2_int min2_int max_two min_two max_three min_three max_four min_four   -- for this text's walks alone
set_option linter.unusedVariables false
set_option linter.unusedSimpArgs false

/-! ### opcode_MayMark: function 16 -/
mutual
def opcode_MayMark.j0 : Nat → ByteArray → Bool → Option (Bool)
  | 0, _, _ => none
  | k + 1, x0, x10 => if x10 = true then (some false) else (opcode_MayMark.l0 k x0 (x0.size : Int) 0)
def opcode_MayMark.l0 : Nat → ByteArray → Int → Int → Option (Bool)
  | 0, _, _, _ => none
  | k + 1, x0, x12, x13 => if x13 < x12 then (if 0 ≤ x13 then (if x13 < (x0.size : Int) then (if (bt x0 x13) < 97 then (some false) else (if (bt x0 x13) > 122 then (some false) else (opcode_MayMark.l0 k x0 x12 (wrap64 (x13 + 1))))) else (none)) else (none)) else (some true)
end
def opcode_MayMark.f (k : Nat) (a0 : ByteArray) : Option (Bool) := if a0.toList = ([] : List UInt8) then (opcode_MayMark.j0 k a0 true) else (opcode_MayMark.j0 k a0 (decide ((a0.size : Int) > 8)))
theorem opcode_MayMark.mono_l : ∀ k, (∀ y0 y1, LeO (opcode_MayMark.j0 k y0 y1) (opcode_MayMark.j0 (k + 1) y0 y1)) ∧ (∀ y0 y1 y2, LeO (opcode_MayMark.l0 k y0 y1 y2) (opcode_MayMark.l0 (k + 1) y0 y1 y2))
  | 0 => ⟨fun _ _ r h => by simp [opcode_MayMark.j0] at h, fun _ _ _ r h => by simp [opcode_MayMark.l0] at h⟩
  | k + 1 => by
    obtain ⟨ih0, ih1⟩ := opcode_MayMark.mono_l k
    refine ⟨?_, ?_⟩
    · intro y0 y1
      unfold opcode_MayMark.j0
      repeat' first
      | (with_reducible exact ih0 _ _)
      | (with_reducible exact ih1 _ _ _)
      | (with_reducible exact LeO.refl _)
      | (with_reducible exact LeO.none _)
      | (with_reducible refine LeO.ite ?_ ?_)
      | (with_reducible refine LeO.bind ?_ (fun _ => ?_))
      | exact ih0 _ _
      | exact ih1 _ _ _
      | exact LeO.none _
      | refine LeO.ite ?_ ?_
      | refine LeO.bind ?_ (fun _ => ?_)
    · intro y0 y1 y2
      unfold opcode_MayMark.l0
      repeat' first
      | (with_reducible exact ih0 _ _)
      | (with_reducible exact ih1 _ _ _)
      | (with_reducible exact LeO.refl _)
      | (with_reducible exact LeO.none _)
      | (with_reducible refine LeO.ite ?_ ?_)
      | (with_reducible refine LeO.bind ?_ (fun _ => ?_))
      | exact ih0 _ _
      | exact ih1 _ _ _
      | exact LeO.none _
      | refine LeO.ite ?_ ?_
      | refine LeO.bind ?_ (fun _ => ?_)
theorem opcode_MayMark.mono : ∀ a0 k, LeO (opcode_MayMark.f k a0) (opcode_MayMark.f (k + 1) a0) := by
  intro a0 k
  obtain ⟨ih0, ih1⟩ := opcode_MayMark.mono_l k
  unfold opcode_MayMark.f
  repeat' first
      | (with_reducible exact ih0 _ _)
      | (with_reducible exact ih1 _ _ _)
      | (with_reducible exact LeO.refl _)
      | (with_reducible exact LeO.none _)
      | (with_reducible refine LeO.ite ?_ ?_)
      | (with_reducible refine LeO.bind ?_ (fun _ => ?_))
      | exact ih0 _ _
      | exact ih1 _ _ _
      | exact LeO.none _
      | refine LeO.ite ?_ ?_
      | refine LeO.bind ?_ (fun _ => ?_)
set_option maxHeartbeats 8000000 in
set_option maxRecDepth 100000 in
theorem opcode_MayMark.calls (k : Nat) (a0 : ByteArray) (r : Bool) (w : World) (h : opcode_MayMark.f k a0 = some r) :
    Calls Try.prog 16 #[.string a0] w fun e w' => e = .returned (.bool r) ∧ Drawn0 w w' := by
  have H : (if a0.toList = ([] : List UInt8) then (opcode_MayMark.j0 k a0 true) else (opcode_MayMark.j0 k a0 (decide ((a0.size : Int) > 8)))) = some r := h
  clear h
  have HC2 := Aside0.mk H
  clear H
  go_enter Try.func16, Try.ntmps16
  go_upto_region 1 with (fail)
  go_cut [10] (fun v10 wc => ∃ (kq : Nat) (x10_1 : Bool), v10 = .bool x10_1 ∧ Aside0 (opcode_MayMark.j0 kq a0 x10_1 = some r) ∧ Aside0 (kq ≤ k) ∧ Drawn0 w wc)
  case first =>
    have H := HC2.out
    clear HC2
    by_cases c3 : a0.toList = ([] : List UInt8)
    · rw [if_pos c3] at H
      have c3b0 : (a0.toList == ([] : List UInt8)) = true := beq_iff_eq.mpr c3
      have c3b1 : (a0.toList != ([] : List UInt8)) = false := bne_eq_false_iff_eq.mpr c3
      clear c3
      (first | rw [c3b0] | (simp only [i64_w, i32_w]; rw [c3b0]) | skip)
      have H' := Aside0.mk H
      clear H
      go_wp2
      go_meet
      case rel => exact ⟨_, (true), (by first | rfl | (simp; done) | (simp [*]; done)), H', ⟨by first | omega | exact Nat.le_refl _⟩, by repeat (first | exact Drawn0.refl _ | apply Drawn0.step)⟩
    · rw [if_neg c3] at H
      have c3b0 : (a0.toList == ([] : List UInt8)) = false := beq_eq_false_iff_ne.mpr c3
      have c3b1 : (a0.toList != ([] : List UInt8)) = true := bne_iff_ne.mpr c3
      (first | rw [c3b0] | (simp only [i64_w, i32_w]; rw [c3b0]) | skip)
      have H' := Aside0.mk H
      clear H
      go_wp2
      go_meet
      case rel => exact ⟨_, (decide ((a0.size : Int) > 8)), (by first | rfl | (simp; done) | (simp [*]; done)), H', ⟨by first | omega | exact Nat.le_refl _⟩, by repeat (first | exact Drawn0.refl _ | apply Drawn0.step)⟩
  case rest =>
    clear HC2
    try clear c1
    try clear p2
    try clear c3
    try clear c3b0
    try clear c3b1
    obtain ⟨kq, x10_1, rfl, HA, HJ1, ⟨mc1, rfl⟩⟩ := hcut
    cases kq with
    | zero => exact absurd HA.out (by simp [opcode_MayMark.j0])
    | succ kj1 =>
      have H := HA.out
      clear HA
      simp only [opcode_MayMark.j0] at H
      by_cases c4 : x10_1 = true
      · subst c4
        have H1 : (some false) = some r := by rw [if_pos rfl] at H; exact H
        clear H
        have H := H1
        clear H1
        obtain rfl := Option.some.inj H
        go_wp2
        go_ret
        exact ⟨by first | rfl | (simp; done) | (simp [*]; done), by repeat (first | exact Drawn0.refl _ | apply Drawn0.step)⟩
      · replace c4 := Bool.eq_false_iff.mpr c4
        subst c4
        have H1 : (opcode_MayMark.l0 kj1 a0 (a0.size : Int) 0) = some r := by rw [if_neg (show ¬ (false = true) by decide)] at H; exact H
        clear H
        have H := H1
        clear H1
        have H' := Aside0.mk H
        clear H
        go_wp2
        go_loopg [13] kj1 (fun kq v13 w' => ∃ (x13_2 : Int), v13 = .int .i64 x13_2 ∧ Aside0 (opcode_MayMark.l0 kq a0 (a0.size : Int) x13_2 = some r) ∧ Aside0 (kq ≤ kj1) ∧ Drawn0 w w')
        case atStart => exact ⟨(0), (by first | rfl | (simp; done) | (simp [*]; done)), H', ⟨Nat.le_refl _⟩, by repeat (first | exact Drawn0.refl _ | apply Drawn0.step)⟩
        case round =>
          clear H'
          try clear c1
          try clear p2
          try clear c3
          try clear c3b0
          try clear c3b1
          try clear c4
          try clear p2
          obtain ⟨x13_2, rfl, HA, HK2, ⟨m2, rfl⟩⟩ := hrel
          cases gk with
          | zero => exact absurd HA.out (by simp [opcode_MayMark.l0])
          | succ k2 =>
            have H := HA.out
            clear HA
            simp only [opcode_MayMark.l0] at H
            by_cases c5 : x13_2 < (a0.size : Int)
            · rw [if_pos c5] at H
              have c5b0 : decide (x13_2 < (a0.size : Int)) = true := decide_eq_true c5
              clear c5
              by_cases c6 : 0 ≤ x13_2
              · rw [if_pos c6] at H
                have c6b0 : decide (0 ≤ x13_2) = true := decide_eq_true c6
                clear c6
                by_cases c7 : x13_2 < (a0.size : Int)
                · rw [if_pos c7] at H
                  have c7b0 : decide (x13_2 < (a0.size : Int)) = true := decide_eq_true c7
                  clear c7
                  by_cases c9 : (bt a0 x13_2) < 97
                  · rw [if_pos c9] at H
                    have c9b0 : decide ((bt a0 x13_2) < 97) = true := decide_eq_true c9
                    clear c9
                    obtain rfl := Option.some.inj H
                    have p8 : 0 ≤ (x13_2 : Int) := of_decide_eq_true (by first | (with_reducible assumption) | assumption)
                    have q8 : x13_2 < (a0.size : Int) := of_decide_eq_true (by first | (with_reducible assumption) | assumption)
                    have hx8 := bt_at a0 x13_2
                    replace p8 := eq_true p8
                    replace q8 := eq_true q8
                    go_wp2
                    go_ret
                    exact ⟨by first | rfl | (simp; done) | (simp [*]; done), by repeat (first | exact Drawn0.refl _ | apply Drawn0.step)⟩
                  · rw [if_neg c9] at H
                    have c9b0 : decide ((bt a0 x13_2) < 97) = false := decide_eq_false c9
                    clear c9
                    by_cases c11 : (bt a0 x13_2) > 122
                    · rw [if_pos c11] at H
                      have c11b0 : decide (122 < (bt a0 x13_2)) = true := decide_eq_true c11
                      clear c11
                      obtain rfl := Option.some.inj H
                      have p8 : 0 ≤ (x13_2 : Int) := of_decide_eq_true (by first | (with_reducible assumption) | assumption)
                      have q8 : x13_2 < (a0.size : Int) := of_decide_eq_true (by first | (with_reducible assumption) | assumption)
                      have hx8 := bt_at a0 x13_2
                      replace p8 := eq_true p8
                      replace q8 := eq_true q8
                      have p10 : 0 ≤ (x13_2 : Int) := of_decide_eq_true (by first | (with_reducible assumption) | assumption)
                      have q10 : x13_2 < (a0.size : Int) := of_decide_eq_true (by first | (with_reducible assumption) | assumption)
                      have hx10 := bt_at a0 x13_2
                      replace p10 := eq_true p10
                      replace q10 := eq_true q10
                      go_wp2
                      go_ret
                      exact ⟨by first | rfl | (simp; done) | (simp [*]; done), by repeat (first | exact Drawn0.refl _ | apply Drawn0.step)⟩
                    · rw [if_neg c11] at H
                      have c11b0 : decide (122 < (bt a0 x13_2)) = false := decide_eq_false c11
                      clear c11
                      have H' := Aside0.mk H
                      clear H
                      have p8 : 0 ≤ (x13_2 : Int) := of_decide_eq_true (by first | (with_reducible assumption) | assumption)
                      have q8 : x13_2 < (a0.size : Int) := of_decide_eq_true (by first | (with_reducible assumption) | assumption)
                      have hx8 := bt_at a0 x13_2
                      replace p8 := eq_true p8
                      replace q8 := eq_true q8
                      have p10 : 0 ≤ (x13_2 : Int) := of_decide_eq_true (by first | (with_reducible assumption) | assumption)
                      have q10 : x13_2 < (a0.size : Int) := of_decide_eq_true (by first | (with_reducible assumption) | assumption)
                      have hx10 := bt_at a0 x13_2
                      replace p10 := eq_true p10
                      replace q10 := eq_true q10
                      go_wp2
                      go_roundg k2
                      case measure => have := HJ1.out; have := HK2.out; omega
                      case rel => exact ⟨(wrap64 (x13_2 + 1)), (by first | rfl | (simp; done) | (simp [*]; done)), H', ⟨by have := HJ1.out; have := HK2.out; omega⟩, by repeat (first | exact Drawn0.refl _ | apply Drawn0.step)⟩
                · rw [if_neg c7] at H
                  exact absurd H (by simp)
              · rw [if_neg c6] at H
                exact absurd H (by simp)
            · rw [if_neg c5] at H
              have c5b0 : decide (x13_2 < (a0.size : Int)) = false := decide_eq_false c5
              clear c5
              obtain rfl := Option.some.inj H
              go_wp2
              go_ret
              exact ⟨by first | rfl | (simp; done) | (simp [*]; done), by repeat (first | exact Drawn0.refl _ | apply Drawn0.step)⟩

/-! ### opcode_name_right: function 68 -/
def opcode_name_right.f (k : Nat) (a0 : ByteArray) : Option (Bool) := (opcode_MayMark.f k a0).bind fun t108 => (some t108)
theorem opcode_name_right.mono : ∀ a0 k, LeO (opcode_name_right.f k a0) (opcode_name_right.f (k + 1) a0) := by
  intro a0 k
  unfold opcode_name_right.f
  repeat' first
      | (with_reducible exact opcode_MayMark.mono _ _)
      | (with_reducible exact LeO.refl _)
      | (with_reducible exact LeO.none _)
      | (with_reducible refine LeO.ite ?_ ?_)
      | (with_reducible refine LeO.bind ?_ (fun _ => ?_))
      | exact opcode_MayMark.mono _ _
      | exact LeO.none _
      | refine LeO.ite ?_ ?_
      | refine LeO.bind ?_ (fun _ => ?_)
set_option maxHeartbeats 8000000 in
set_option maxRecDepth 100000 in
theorem opcode_name_right.calls (k : Nat) (a0 : ByteArray) (r : Bool) (w : World) (h : opcode_name_right.f k a0 = some r) :
    Calls Try.prog 68 #[.string a0] w fun e w' => e = .returned (.bool r) ∧ Drawn0 w w' := by
  have H : ((opcode_MayMark.f k a0).bind fun t108 => (some t108)) = some r := h
  clear h
  replace H := Option.bind_eq_some_iff.mp H
  obtain ⟨t108, A20, H⟩ := H
  replace H : (some t108) = some r := H
  have A2 := Aside0.mk A20
  clear A20
  obtain rfl := Option.some.inj H
  go_enter Try.func68, Try.ntmps68
  go_wp2_with (first | ((with_reducible refine gate_callee (f := 16) rfl ?_); refine goesL_ (some 4) rfl rfl Try.func16 (by kernel_rfl) rfl #[.string a0] rfl (by (try simp only [List.map_toArray, List.map_cons, List.map_nil]); first | done | rfl | (simp only [List.length_drop, List.length_take]; rfl)) ?_; (with_reducible refine (opcode_MayMark.calls k a0 t108 _ A2.out).mono ?_); rintro e w' ⟨rfl, ⟨nd, rfl⟩⟩; refine ⟨_, rfl, ?_⟩))
  go_ret
  exact ⟨by first | rfl | (simp; done) | (simp [*]; done), by repeat (first | exact Drawn0.refl _ | apply Drawn0.step)⟩

/-! ### opcode_Right: function 12 -/
-- NEEDS (stylus/opcode.place).right (stylus/opcode.length).right (stylus/opcode.insert).right (stylus/opcode.name).right
-- fields hands back a row of values with methods; only and Right go through it
inductive opcode_Fld where
  | place (n : Int)
  | len (n : Int)
  | ins (s : ByteArray)
  | nam (s : ByteArray)
def opcode_Fld.val : opcode_Fld → Value
  | .place n => .iface 40 (.int .i64 n)
  | .len n => .iface 42 (.int .i64 n)
  | .ins s => .iface 43 (.string s)
  | .nam s => .iface 44 (.string s)
def opcode_Row (W : World) (v : Value) (l : List opcode_Fld) : Prop := (l = [] ∧ v = .slice none 0 0) ∨ (∃ b c, v = .slice (some ⟨b, 0, none⟩) l.length c ∧ ∀ (j : Nat) (h : j < l.length), W.cell? ⟨b, j, none⟩ = some (l[j]'h).val)
theorem opcode_Row.below {w w1 : World} {v : Value} {l : List opcode_Fld} (h : opcode_Row w v l) (hb : Below w.heap.size w w1) : opcode_Row w1 v l := by
  rcases h with h | ⟨b, c, rfl, hc⟩
  · exact .inl h
  · exact .inr ⟨b, c, rfl, fun j hj => pw_cell_below hb (hc j hj)⟩
theorem opcode_cells2 (w : World) (n : Nat) (hn : w.heap.size = n) (x y : opcode_Fld) (j : Nat) (hj : j < [x, y].length) (e : TypeId) : (w.alloc (.cells #[x.val, y.val] e)).cell? ⟨n, j, none⟩ = some ([x, y][j]'hj).val := by
  subst hn
  have h : (w.alloc (.cells #[x.val, y.val] e)).heap[w.heap.size]? = some (.cells #[x.val, y.val] e (0, 0)) := heap_alloc_new w _
  rcases j with _ | _ | j
  · exact blk_cell h 0
  · exact blk_cell h 1
  · exact absurd hj (by simp)
theorem opcode_cells1 (w : World) (n : Nat) (hn : w.heap.size = n) (x : opcode_Fld) (j : Nat) (hj : j < [x].length) (e : TypeId) : (w.alloc (.cells #[x.val] e)).cell? ⟨n, j, none⟩ = some ([x][j]'hj).val := by
  subst hn
  have h : (w.alloc (.cells #[x.val] e)).heap[w.heap.size]? = some (.cells #[x.val] e (0, 0)) := heap_alloc_new w _
  rcases j with _ | j
  · exact blk_cell h 0
  · exact absurd hj (by simp)
def opcode_fields.g (kind at_ n : Int) (s : ByteArray) : List opcode_Fld × Bool :=
  if kind = 1 then ([.place at_, .ins s], true) else if kind = 2 then ([.place at_, .len n], true) else if kind = 3 then ([.place at_, .nam s], true) else if kind = 4 then ([.nam s], true)
    else if kind = 5 then ([], true) else if kind = 6 then ([], true) else if kind = 7 then ([], true) else if kind = 8 then ([], true) else ([], false)
set_option maxHeartbeats 8000000 in
set_option maxRecDepth 100000 in
theorem opcode_fields.calls (a0 a1 a2 : Int) (a3 : ByteArray) (w : World) :
    Calls Try.prog 18 #[.agg #[.int .i64 a0, .int .i64 a1, .int .i64 a2, .string a3]] w fun e w' => ∃ v, e = .returned (.tuple #[v, .bool (opcode_fields.g a0 a1 a2 a3).2]) ∧ opcode_Row w' v (opcode_fields.g a0 a1 a2 a3).1 ∧ Below w.heap.size w w' := by
  have hu23 := Try.underlying23
  have hb := Aside0.mk (Below.refl w.heap.size w)
  go_enter Try.func18, Try.ntmps18
  unfold opcode_fields.g
  by_cases c1 : a0 = 1
  · subst c1
    rw [if_pos rfl]
    go_wp2_with fail
    go_ret2
    exact ⟨_, rfl, .inr ⟨_, _, rfl, fun j hj => opcode_cells2 _ _ (by simp) (.place _) (.ins _) j hj 39⟩, below_alloc (below_alloc hb.out _) _⟩
  have n1 : (a0 == 1) = false := beq_eq_false_iff_ne.mpr c1
  by_cases c2 : a0 = 2
  · subst c2
    rw [if_neg (by decide), if_pos rfl]
    go_wp2_with fail
    go_ret2
    exact ⟨_, rfl, .inr ⟨_, _, rfl, fun j hj => opcode_cells2 _ _ (by simp) (.place _) (.len _) j hj 39⟩, below_alloc (below_alloc hb.out _) _⟩
  have n2 : (a0 == 2) = false := beq_eq_false_iff_ne.mpr c2
  by_cases c3 : a0 = 3
  · subst c3
    rw [if_neg (by decide), if_neg (by decide), if_pos rfl]
    go_wp2_with fail
    go_ret2
    exact ⟨_, rfl, .inr ⟨_, _, rfl, fun j hj => opcode_cells2 _ _ (by simp) (.place _) (.nam _) j hj 39⟩, below_alloc (below_alloc hb.out _) _⟩
  have n3 : (a0 == 3) = false := beq_eq_false_iff_ne.mpr c3
  by_cases c4 : a0 = 4
  · subst c4
    rw [if_neg (by decide), if_neg (by decide), if_neg (by decide), if_pos rfl]
    go_wp2_with fail
    go_ret2
    exact ⟨_, rfl, .inr ⟨_, _, rfl, fun j hj => opcode_cells1 _ _ (by simp) (.nam _) j hj 39⟩, below_alloc (below_alloc hb.out _) _⟩
  have n4 : (a0 == 4) = false := beq_eq_false_iff_ne.mpr c4
  rw [if_neg c1, if_neg c2, if_neg c3, if_neg c4]
  by_cases c5 : a0 = 5
  · subst c5
    rw [if_pos rfl]
    go_wp2_with fail
    go_ret2
    exact ⟨_, rfl, .inl ⟨rfl, rfl⟩, below_alloc hb.out _⟩
  have n5 : (a0 == 5) = false := beq_eq_false_iff_ne.mpr c5
  rw [if_neg c5]
  by_cases c6 : a0 = 6
  · subst c6
    rw [if_pos rfl]
    go_wp2_with fail
    go_ret2
    exact ⟨_, rfl, .inl ⟨rfl, rfl⟩, below_alloc hb.out _⟩
  have n6 : (a0 == 6) = false := beq_eq_false_iff_ne.mpr c6
  rw [if_neg c6]
  by_cases c7 : a0 = 7
  · subst c7
    rw [if_pos rfl]
    go_wp2_with fail
    go_ret2
    exact ⟨_, rfl, .inl ⟨rfl, rfl⟩, below_alloc hb.out _⟩
  have n7 : (a0 == 7) = false := beq_eq_false_iff_ne.mpr c7
  rw [if_neg c7]
  by_cases c8 : a0 = 8
  · subst c8
    rw [if_pos rfl]
    go_wp2_with fail
    go_ret2
    exact ⟨_, rfl, .inl ⟨rfl, rfl⟩, below_alloc hb.out _⟩
  have n8 : (a0 == 8) = false := beq_eq_false_iff_ne.mpr c8
  rw [if_neg c8]
  clear c1 c2 c3 c4 c5 c6 c7 c8
  go_wp2_with fail
  go_ret2
  exact ⟨_, rfl, .inl ⟨rfl, rfl⟩, below_alloc hb.out _⟩
theorem opcode_ta_place_place : ∀ (v : Value) (W : World), (Instr.typeAssert (.iface 40 v) 39 40 true).run Try.prog W = .ok (.tuple #[v, .bool true]) W := fun v W => by kernel_rfl
theorem opcode_ta_length_place : ∀ (v : Value) (W : World), (Instr.typeAssert (.iface 42 v) 39 40 true).run Try.prog W = .ok (.tuple #[.int .i64 0, .bool false]) W := fun v W => by kernel_rfl
theorem opcode_ta_length_length : ∀ (v : Value) (W : World), (Instr.typeAssert (.iface 42 v) 39 42 true).run Try.prog W = .ok (.tuple #[v, .bool true]) W := fun v W => by kernel_rfl
theorem opcode_ta_insert_place : ∀ (v : Value) (W : World), (Instr.typeAssert (.iface 43 v) 39 40 true).run Try.prog W = .ok (.tuple #[.int .i64 0, .bool false]) W := fun v W => by kernel_rfl
theorem opcode_ta_insert_length : ∀ (v : Value) (W : World), (Instr.typeAssert (.iface 43 v) 39 42 true).run Try.prog W = .ok (.tuple #[.int .i64 0, .bool false]) W := fun v W => by kernel_rfl
theorem opcode_ta_insert_insert : ∀ (v : Value) (W : World), (Instr.typeAssert (.iface 43 v) 39 43 true).run Try.prog W = .ok (.tuple #[v, .bool true]) W := fun v W => by kernel_rfl
theorem opcode_ta_name_place : ∀ (v : Value) (W : World), (Instr.typeAssert (.iface 44 v) 39 40 true).run Try.prog W = .ok (.tuple #[.int .i64 0, .bool false]) W := fun v W => by kernel_rfl
theorem opcode_ta_name_length : ∀ (v : Value) (W : World), (Instr.typeAssert (.iface 44 v) 39 42 true).run Try.prog W = .ok (.tuple #[.int .i64 0, .bool false]) W := fun v W => by kernel_rfl
theorem opcode_ta_name_insert : ∀ (v : Value) (W : World), (Instr.typeAssert (.iface 44 v) 39 43 true).run Try.prog W = .ok (.tuple #[.string ⟨#[]⟩, .bool false]) W := fun v W => by kernel_rfl
theorem opcode_ta_name_name : ∀ (v : Value) (W : World), (Instr.typeAssert (.iface 44 v) 39 44 true).run Try.prog W = .ok (.tuple #[v, .bool true]) W := fun v W => by kernel_rfl
def opcode_only.step (x : Int × Int × Int × ByteArray) : opcode_Fld → Int × Int × Int × ByteArray
  | .place n => (x.1, n, x.2.2.1, x.2.2.2)
  | .len n => (x.1, x.2.1, n, x.2.2.2)
  | .ins s => (x.1, x.2.1, x.2.2.1, s)
  | .nam s => (x.1, x.2.1, x.2.2.1, s)
def opcode_only.g (kind : Int) (l : List opcode_Fld) : Int × Int × Int × ByteArray := l.foldl opcode_only.step (kind, 0, 0, ⟨#[]⟩)
theorem opcode_Row.cell {w : World} {v : Value} {l : List opcode_Fld} (h : opcode_Row w v l) (j : Nat) (hj : j < l.length) : ∃ b c, v = .slice (some ⟨b, 0, none⟩) l.length c ∧ w.cell? ⟨b, j, none⟩ = some (l[j]'hj).val := by
  rcases h with ⟨rfl, _⟩ | ⟨b, c, rfl, hc⟩
  · exact absurd hj (by simp)
  · exact ⟨b, c, rfl, hc j hj⟩
theorem opcode_Row.slice {w : World} {v : Value} {l : List opcode_Fld} (h : opcode_Row w v l) : ∃ A c, v = .slice A l.length c ∧ ∀ (j : Nat) (hj : j < l.length), ∃ b, A = some ⟨b, 0, none⟩ ∧ w.cell? ⟨b, j, none⟩ = some (l[j]'hj).val := by
  rcases h with ⟨rfl, rfl⟩ | ⟨b, c, rfl, hc⟩
  · exact ⟨none, 0, rfl, fun j hj => absurd hj (by simp)⟩
  · exact ⟨some ⟨b, 0, none⟩, c, rfl, fun j hj => ⟨b, rfl, hc j hj⟩⟩
theorem opcode_set4 {w : World} {g : Nat} {t : TypeId} {a b c d : Value} (h : w.heap[g]? = some (.cells #[a, b, c, d] t (0, 0))) (x y z u : Value) : ((((w.setCell ⟨g, 0, none⟩ x).setCell ⟨g, 1, none⟩ y).setCell ⟨g, 2, none⟩ z).setCell ⟨g, 3, none⟩ u).heap[g]? = some (.cells #[x, y, z, u] t (0, 0)) :=
  blk_put (blk_put (blk_put (blk_put h 0 x rfl) 1 y rfl) 2 z rfl) 3 u rfl
set_option maxHeartbeats 8000000 in
set_option maxRecDepth 100000 in
theorem opcode_only.calls (a0 : Int) (v : Value) (l : List opcode_Fld) (hn : l.length ≤ 2) (w : World) (hv : opcode_Row w v l) :
    Calls Try.prog 23 #[.int .i64 a0, v] w fun e w' => e = .returned (.agg #[.int .i64 (opcode_only.g a0 l).1, .int .i64 (opcode_only.g a0 l).2.1, .int .i64 (opcode_only.g a0 l).2.2.1, .string (opcode_only.g a0 l).2.2.2]) ∧ Below w.heap.size w w' := by
  have hu23 := Try.underlying23
  have HV := Aside0.mk hv
  obtain ⟨A, c, rfl, hA⟩ := hv.slice
  have HA := Aside0.mk hA
  have hn2 : (l.length : Int) ≤ 2 := by omega
  clear hv hA hn
  go_enter Try.func23, Try.ntmps23
  go_upto_region 2 with fail
  go_wp2_with fail
  go_loopg [16] l.length (fun kq v16 wx => ∃ i : Nat, v16 = .int .i64 (i : Int) ∧ Aside0 (i + kq = l.length) ∧ wx.heap[w.heap.size]? = some (.cells #[.int .i64 0, .int .i64 0, .int .i64 0, .string ByteArray.empty] 23 (0, 0)) ∧ wx.heap[w.heap.size + 1]? = some (.cells #[.int .i64 ((l.take i).foldl opcode_only.step (a0, 0, 0, ⟨#[]⟩)).1, .int .i64 ((l.take i).foldl opcode_only.step (a0, 0, 0, ⟨#[]⟩)).2.1, .int .i64 ((l.take i).foldl opcode_only.step (a0, 0, 0, ⟨#[]⟩)).2.2.1, .string ((l.take i).foldl opcode_only.step (a0, 0, 0, ⟨#[]⟩)).2.2.2] 23 (0, 0)) ∧ Aside0 (Below w.heap.size w wx))
  case atStart =>
    exact ⟨0, rfl, ⟨by omega⟩, blk_alloc (heap_alloc_new w _) _, by simpa using heap_alloc_new (w.alloc _) _, ⟨below_alloc (below_alloc (Below.refl _ _) _) _⟩⟩
  case round =>
    obtain ⟨i, rfl, HI, hg4, hg5, HB⟩ := hrel
    cases gk with
    | zero =>
      have hi : i = l.length := by have := HI.out; omega
      have hlt : decide ((i : Int) < (l.length : Int)) = false := decide_eq_false (by omega)
      have hltn : decide (i < l.length) = false := decide_eq_false (by omega)
      subst hi
      rw [List.take_length] at hg5
      have q0 := (blk_cell hg5 0).trans rfl
      have q1 := (blk_cell hg5 1).trans rfl
      have q2 := (blk_cell hg5 2).trans rfl
      have q3 := (blk_cell hg5 3).trans rfl
      have p0 := (blk_cell hg4 0).trans rfl
      have p1 := (blk_cell hg4 1).trans rfl
      have p2 := (blk_cell hg4 2).trans rfl
      have p3 := (blk_cell hg4 3).trans rfl
      have r0 := blk_frozen hg4 0
      have r1 := blk_frozen hg4 1
      have r2 := blk_frozen hg4 2
      have r3 := blk_frozen hg4 3
      have HG4 := Aside0.mk hg4
      clear hg4 hg5
      go_wp2_with fail
      refine bodyPost_ret (results_cell_row rfl _ _ w.heap.size 23 #[.int .i64 (opcode_only.g a0 l).1, .int .i64 (opcode_only.g a0 l).2.1, .int .i64 (opcode_only.g a0 l).2.2.1, .string (opcode_only.g a0 l).2.2.2] (0, 0) _ rfl (opcode_set4 HG4.out _ _ _ _) Try.underlying23 rfl (by kernel_rfl)) rfl ?_
      exact ⟨rfl, (((HB.out.setCell (Nat.le_refl _) _).setCell (Nat.le_refl _) _).setCell (Nat.le_refl _) _).setCell (Nat.le_refl _) _⟩
    | succ k1 =>
      have hi : i < l.length := by have := HI.out; omega
      have hlt : decide ((i : Int) < (l.length : Int)) = true := decide_eq_true (by omega)
      have hltn : decide (i < l.length) = true := decide_eq_true hi
      obtain ⟨b, rfl, hc⟩ := HA.out i hi
      have hcw : wr.cell? ⟨b, i, none⟩ = some (l[i]'hi).val := pw_cell_below HB.out hc
      have HI' := Aside0.mk (show (i + 1) + k1 = l.length by have := HI.out; omega)
      have h0i : (0 : Int) ≤ (i : Int) := by omega
      have hil : (i : Int) < (l.length : Int) := by omega
      have hstep : (l.take (i + 1)).foldl opcode_only.step (a0, 0, 0, ⟨#[]⟩) = opcode_only.step ((l.take i).foldl opcode_only.step (a0, 0, 0, ⟨#[]⟩)) (l[i]'hi) := by
        rw [List.take_add_one, List.getElem?_eq_getElem hi, List.foldl_append]
        rfl
      obtain ⟨⟨x0, x1, x2, x3⟩, hx⟩ : ∃ x, (l.take i).foldl opcode_only.step (a0, 0, 0, ⟨#[]⟩) = x := ⟨_, rfl⟩
      rw [hx] at hg5 hstep
      obtain ⟨f, hf⟩ : ∃ f, l[i]'hi = f := ⟨_, rfl⟩
      rw [hf] at hcw hstep
      have ST := Aside0.mk hstep
      have r1 := blk_frozen hg5 1
      have r2 := blk_frozen hg5 2
      have r3 := blk_frozen hg5 3
      have q1 := (blk_cell hg5 1).trans rfl
      have q2 := (blk_cell hg5 2).trans rfl
      have q3 := (blk_cell hg5 3).trans rfl
      have HG4 := Aside0.mk hg4
      have HG5 := Aside0.mk hg5
      clear hstep hx hg4 hg5 hc hf
      have hne : w.heap.size ≠ w.heap.size + 1 := by omega
      cases f with
      | place n =>
        simp only [opcode_Fld.val] at hcw
        have ta0 := opcode_ta_place_place
        go_wp2_with fail
        go_roundg k1
        case measure => omega
        case rel => exact ⟨i + 1, rfl, HI', blk_far HG4.out hne _, by rw [ST.out]; exact blk_put HG5.out 1 _ rfl, ⟨HB.out.setCell (Nat.le_succ _) _⟩⟩
      | len n =>
        simp only [opcode_Fld.val] at hcw
        have ta0 := opcode_ta_length_place
        have ta1 := opcode_ta_length_length
        go_wp2_with fail
        go_roundg k1
        case measure => omega
        case rel => exact ⟨i + 1, rfl, HI', blk_far HG4.out hne _, by rw [ST.out]; exact blk_put HG5.out 2 _ rfl, ⟨HB.out.setCell (Nat.le_succ _) _⟩⟩
      | ins s =>
        simp only [opcode_Fld.val] at hcw
        have ta0 := opcode_ta_insert_place
        have ta1 := opcode_ta_insert_length
        have ta2 := opcode_ta_insert_insert
        go_wp2_with fail
        go_roundg k1
        case measure => omega
        case rel => exact ⟨i + 1, rfl, HI', blk_far HG4.out hne _, by rw [ST.out]; exact blk_put HG5.out 3 _ rfl, ⟨HB.out.setCell (Nat.le_succ _) _⟩⟩
      | nam s =>
        simp only [opcode_Fld.val] at hcw
        have ta0 := opcode_ta_name_place
        have ta1 := opcode_ta_name_length
        have ta2 := opcode_ta_name_insert
        have ta3 := opcode_ta_name_name
        go_wp2_with fail
        go_roundg k1
        case measure => omega
        case rel => exact ⟨i + 1, rfl, HI', blk_far HG4.out hne _, by rw [ST.out]; exact blk_put HG5.out 3 _ rfl, ⟨HB.out.setCell (Nat.le_succ _) _⟩⟩
def opcode_same (x y : Int × Int × Int × ByteArray) : Bool := decide (x = y)
theorem opcode_eqOp (x0 x1 x2 y0 y1 y2 : Int) (x3 y3 : ByteArray) (W : World) : (Op.equalIn 10000 23 (.agg #[.int .i64 x0, .int .i64 x1, .int .i64 x2, .string x3]) (.agg #[.int .i64 y0, .int .i64 y1, .int .i64 y2, .string y3])).run Try.prog W = .ok (opcode_same (x0, x1, x2, x3) (y0, y1, y2, y3)) W := by
  have hu23 := Try.underlying23
  have hu3 := Try.underlying3
  have hu9 := Try.underlying9
  have ht : x3.toList = y3.toList ↔ x3 = y3 := by
    constructor
    · intro h
      rw [ByteArray.toList_eq, ByteArray.toList_eq] at h
      exact ByteArray.ext (Array.ext' h)
    · rintro rfl; rfl
  unfold Op.equalIn
  go_simp
  unfold opcode_same
  by_cases h0 : x0 = y0 <;> by_cases h1 : x1 = y1 <;> by_cases h2 : x2 = y2 <;> by_cases h3 : x3 = y3 <;> simp [h0, h1, h2, h3]
theorem opcode_me_place : ∀ (v : Value) (W : World), (method 187 40 v "stylus/opcode.right").run Try.prog W = .ok (58, v) W := fun v W => by kernel_rfl
theorem opcode_me_length : ∀ (v : Value) (W : World), (method 187 42 v "stylus/opcode.right").run Try.prog W = .ok (59, v) W := fun v W => by kernel_rfl
theorem opcode_me_insert : ∀ (v : Value) (W : World), (method 187 43 v "stylus/opcode.right").run Try.prog W = .ok (60, v) W := fun v W => by kernel_rfl
theorem opcode_me_name : ∀ (v : Value) (W : World), (method 187 44 v "stylus/opcode.right").run Try.prog W = .ok (68, v) W := fun v W => by kernel_rfl
def opcode_Fld.right (k : Nat) : opcode_Fld → Option Bool
  | .place n => opcode_place_right.f n
  | .len n => opcode_length_right.f n
  | .ins s => opcode_insert_right.f k s
  | .nam s => opcode_name_right.f k s
def opcode_Right.all (k : Nat) : List opcode_Fld → Option Bool
  | [] => some true
  | x :: l => (x.right k).bind fun b => if b = true then (opcode_Right.all k l) else (some false)
def opcode_Right.f (k : Nat) (a0 a1 a2 : Int) (a3 : ByteArray) : Option Bool :=
  if (opcode_fields.g a0 a1 a2 a3).2 = true then (if opcode_only.g a0 (opcode_fields.g a0 a1 a2 a3).1 = (a0, a1, a2, a3) then (opcode_Right.all k (opcode_fields.g a0 a1 a2 a3).1) else (some false)) else (some false)
theorem opcode_Right.mono : ∀ a0 a1 a2 a3 k, LeO (opcode_Right.f k a0 a1 a2 a3) (opcode_Right.f (k + 1) a0 a1 a2 a3) := by
  intro a0 a1 a2 a3 k
  have h1 : ∀ x : opcode_Fld, LeO (x.right k) (x.right (k + 1)) := fun x => by
    cases x with
    | place n => exact LeO.refl _
    | len n => exact LeO.refl _
    | ins s => exact opcode_insert_right.mono _ _
    | nam s => exact opcode_name_right.mono _ _
  have h2 : ∀ l, LeO (opcode_Right.all k l) (opcode_Right.all (k + 1) l) := fun l => by
    induction l with
    | nil => exact LeO.refl _
    | cons x l ih =>
      unfold opcode_Right.all
      exact LeO.bind (h1 x) fun _ => LeO.ite ih (LeO.refl _)
  unfold opcode_Right.f
  exact LeO.ite (LeO.ite (h2 _) (LeO.refl _)) (LeO.refl _)
theorem opcode_fields.few (a0 a1 a2 : Int) (a3 : ByteArray) : (opcode_fields.g a0 a1 a2 a3).1.length ≤ 2 := by
  unfold opcode_fields.g
  repeat (first | (split <;> try (simp; done)))
set_option maxHeartbeats 8000000 in
set_option maxRecDepth 100000 in
theorem opcode_Right.calls (k : Nat) (a0 a1 a2 : Int) (a3 : ByteArray) (r : Bool) (w : World) (h : opcode_Right.f k a0 a1 a2 a3 = some r) :
    Calls Try.prog 12 #[.agg #[.int .i64 a0, .int .i64 a1, .int .i64 a2, .string a3]] w fun e w' => e = .returned (.bool r) ∧ Below w.heap.size w w' := by
  have hu23 := Try.underlying23
  unfold opcode_Right.f at h
  have hfew := opcode_fields.few a0 a1 a2 a3
  have hF := fun W => opcode_fields.calls a0 a1 a2 a3 W
  obtain ⟨⟨l, ok⟩, hg⟩ : ∃ z, opcode_fields.g a0 a1 a2 a3 = z := ⟨_, rfl⟩
  rw [hg] at h hfew
  simp only [hg] at hF
  simp only at h hfew hF
  have HF := Aside0.mk hF
  have HN := Aside0.mk hfew
  have HH := Aside0.mk h
  clear h hfew hF hg
  go_enter Try.func12, Try.ntmps12
  go_upto_region 2 with (go_at_call 18; (with_reducible refine (HF.out _).mono ?_); rintro e w2 ⟨v, rfl, hrow, hb⟩)
  have hx0 : w2.cell? ⟨w.heap.size, 0, none⟩ = some (.int .i64 a0) := (blk_cell (blk_below (heap_alloc_new w _) hb) 0).trans rfl
  have hx : w2.heap[w.heap.size]? = some (.cells #[.int .i64 a0, .int .i64 a1, .int .i64 a2, .string a3] 23 (0, 0)) := blk_below (heap_alloc_new w _) hb
  have hbW : Below w.heap.size w w2 := below_step (below_alloc (Below.refl _ _) _) hb
  obtain ⟨⟨o0, o1, o2, o3⟩, ho⟩ : ∃ z, opcode_only.g a0 l = z := ⟨_, rfl⟩
  go_cut [21] (fun v21 wx => v21 = .bool (!ok || !opcode_same (o0, o1, o2, o3) (a0, a1, a2, a3)) ∧ Aside0 (opcode_Row wx v l ∧ Below w.heap.size w wx))
  case first =>
    cases ok with
    | false =>
      go_region
      all_goals go_wp2_with fail
      all_goals go_meet
      all_goals exact ⟨rfl, ⟨hrow, below_drew hbW⟩⟩
    | true =>
      have hc1 : w2.cell? ⟨w.heap.size, 1, none⟩ = some (.int .i64 a1) := (blk_cell hx 1).trans rfl
      have hc2 : w2.cell? ⟨w.heap.size, 2, none⟩ = some (.int .i64 a2) := (blk_cell hx 2).trans rfl
      have hc3 : w2.cell? ⟨w.heap.size, 3, none⟩ = some (.string a3) := (blk_cell hx 3).trans rfl
      have hd0 : w2.drew.cell? ⟨w.heap.size, 0, none⟩ = some (.int .i64 a0) := hx0
      have hd1 : w2.drew.cell? ⟨w.heap.size, 1, none⟩ = some (.int .i64 a1) := hc1
      have hd2 : w2.drew.cell? ⟨w.heap.size, 2, none⟩ = some (.int .i64 a2) := hc2
      have hd3 : w2.drew.cell? ⟨w.heap.size, 3, none⟩ = some (.string a3) := hc3
      have hO := fun hr => opcode_only.calls a0 v l HN.out w2.drew hr
      simp only [ho] at hO
      replace hO := hO hrow
      have heq := opcode_eqOp
      go_region_with ((go_at_call 23; (with_reducible refine hO.mono ?_); rintro e w3 ⟨rfl, hb3⟩; have hz0 := pw_cell_below hb3 hd0; have hz1 := pw_cell_below hb3 hd1; have hz2 := pw_cell_below hb3 hd2; have hz3 := pw_cell_below hb3 hd3))
      all_goals go_wp2_with fail
      all_goals go_meet
      all_goals exact ⟨rfl, ⟨opcode_Row.below (w := w2.drew) hrow hb3, below_step (below_drew hbW) hb3⟩⟩
  clear hx hx0 hrow hb hbW
  obtain ⟨rfl, HB⟩ := hcut
  have h := HH.out
  clear HH
  cases ok with
  | false =>
    rw [if_neg Bool.false_ne_true] at h
    obtain rfl := Option.some.inj h
    rw [show (!false || !opcode_same (o0, o1, o2, o3) (a0, a1, a2, a3)) = true from rfl]
    clear h
    go_wp2_with fail
    go_ret
    exact ⟨rfl, HB.out.2⟩
  | true =>
    rw [if_pos rfl, ho] at h
    by_cases hs : ((o0, o1, o2, o3) : Int × Int × Int × ByteArray) = (a0, a1, a2, a3)
    rotate_left
    · rw [if_neg hs] at h
      obtain rfl := Option.some.inj h
      rw [show (!true || !opcode_same (o0, o1, o2, o3) (a0, a1, a2, a3)) = true from by unfold opcode_same; rw [decide_eq_false hs]; rfl]
      clear h hs
      go_wp2_with fail
      go_ret
      exact ⟨rfl, HB.out.2⟩
    rw [if_pos hs] at h
    rw [show (!true || !opcode_same (o0, o1, o2, o3) (a0, a1, a2, a3)) = false from by unfold opcode_same; rw [decide_eq_true hs]; rfl]
    have HL := Aside0.mk h
    obtain ⟨A, c, rfl, hA⟩ := HB.out.1.slice
    have HA := Aside0.mk hA
    have hn2 : (l.length : Int) ≤ 2 := by have := HN.out; omega
    clear h hs hA ho
    go_upto_region 4 with fail
    go_wp2_with fail
    go_loopg [24] l.length (fun kq v24 wx => ∃ i : Nat, v24 = .int .i64 (i : Int) ∧ Aside0 (i + kq = l.length) ∧ Aside0 (opcode_Right.all k (l.drop i) = some r) ∧ Aside0 (Below wc.heap.size wc wx) ∧ Aside0 (Below w.heap.size w wx))
    case atStart =>
      exact ⟨0, rfl, ⟨by omega⟩, HL, ⟨Below.refl _ _⟩, ⟨HB.out.2⟩⟩
    case round =>
      obtain ⟨i, rfl, HI, HL2, HW, HBB⟩ := hrel
      cases gk with
      | zero =>
        have hi : i = l.length := by have := HI.out; omega
        have hlt : decide ((i : Int) < (l.length : Int)) = false := decide_eq_false (by omega)
        have hltn : decide (i < l.length) = false := decide_eq_false (by omega)
        subst hi
        have h := HL2.out
        rw [List.drop_length] at h
        obtain rfl := Option.some.inj h
        clear h HL2 HL
        go_wp2_with fail
        go_ret
        exact ⟨rfl, HBB.out⟩
      | succ k1 =>
        have hi : i < l.length := by have := HI.out; omega
        have hlt : decide ((i : Int) < (l.length : Int)) = true := decide_eq_true (by omega)
        have hltn : decide (i < l.length) = true := decide_eq_true hi
        obtain ⟨b, rfl, hc⟩ := HA.out i hi
        have hcw : wr.cell? ⟨b, i, none⟩ = some (l[i]'hi).val := pw_cell_below HW.out hc
        have HI' := Aside0.mk (show (i + 1) + k1 = l.length by have := HI.out; omega)
        have h0i : (0 : Int) ≤ (i : Int) := by omega
        have hil : (i : Int) < (l.length : Int) := by omega
        have h := HL2.out
        rw [List.drop_eq_getElem_cons hi] at h
        obtain ⟨f, hf⟩ : ∃ f, l[i]'hi = f := ⟨_, rfl⟩
        rw [hf] at hcw h
        unfold opcode_Right.all at h
        replace h := Option.bind_eq_some_iff.mp h
        obtain ⟨bb, A1, h⟩ := h
        clear hc hf HL2 HL
        cases bb with
        | true =>
          rw [if_pos rfl] at h
          have HL' := Aside0.mk h
          clear h
          cases f with
          | place n =>
            simp only [opcode_Fld.val] at hcw
            have hme := opcode_me_place
            have HA1 : Aside0 (opcode_place_right.f n = some true) := ⟨A1⟩
            clear A1
            go_wp2_with (go_at_call 58; (with_reducible refine (opcode_place_right.calls n true _ HA1.out).mono ?_); rintro e w3 ⟨rfl, ⟨nd, rfl⟩⟩)
            go_roundg k1
            case measure => omega
            case rel => exact ⟨i + 1, rfl, HI', HL', ⟨pw_below_drewN HW.out nd⟩, ⟨pw_below_drewN HBB.out nd⟩⟩
          | len n =>
            simp only [opcode_Fld.val] at hcw
            have hme := opcode_me_length
            have HA1 : Aside0 (opcode_length_right.f n = some true) := ⟨A1⟩
            clear A1
            go_wp2_with (go_at_call 59; (with_reducible refine (opcode_length_right.calls n true _ HA1.out).mono ?_); rintro e w3 ⟨rfl, ⟨nd, rfl⟩⟩)
            go_roundg k1
            case measure => omega
            case rel => exact ⟨i + 1, rfl, HI', HL', ⟨pw_below_drewN HW.out nd⟩, ⟨pw_below_drewN HBB.out nd⟩⟩
          | ins s =>
            simp only [opcode_Fld.val] at hcw
            have hme := opcode_me_insert
            have HA1 : Aside0 (opcode_insert_right.f k s = some true) := ⟨A1⟩
            clear A1
            go_wp2_with (go_at_call 60; (with_reducible refine (opcode_insert_right.calls k s true _ HA1.out).mono ?_); rintro e w3 ⟨rfl, hb3⟩)
            go_roundg k1
            case measure => omega
            case rel => exact ⟨i + 1, rfl, HI', HL', ⟨below_step HW.out hb3⟩, ⟨below_step HBB.out hb3⟩⟩
          | nam s =>
            simp only [opcode_Fld.val] at hcw
            have hme := opcode_me_name
            have HA1 : Aside0 (opcode_name_right.f k s = some true) := ⟨A1⟩
            clear A1
            go_wp2_with (go_at_call 68; (with_reducible refine (opcode_name_right.calls k s true _ HA1.out).mono ?_); rintro e w3 ⟨rfl, ⟨nd, rfl⟩⟩)
            go_roundg k1
            case measure => omega
            case rel => exact ⟨i + 1, rfl, HI', HL', ⟨pw_below_drewN HW.out nd⟩, ⟨pw_below_drewN HBB.out nd⟩⟩
        | false =>
          rw [if_neg Bool.false_ne_true] at h
          obtain rfl := Option.some.inj h
          clear h
          cases f with
          | place n =>
            simp only [opcode_Fld.val] at hcw
            have hme := opcode_me_place
            have HA1 : Aside0 (opcode_place_right.f n = some false) := ⟨A1⟩
            clear A1
            go_wp2_with (go_at_call 58; (with_reducible refine (opcode_place_right.calls n false _ HA1.out).mono ?_); rintro e w3 ⟨rfl, ⟨nd, rfl⟩⟩)
            go_ret
            exact ⟨rfl, pw_below_drewN HBB.out nd⟩
          | len n =>
            simp only [opcode_Fld.val] at hcw
            have hme := opcode_me_length
            have HA1 : Aside0 (opcode_length_right.f n = some false) := ⟨A1⟩
            clear A1
            go_wp2_with (go_at_call 59; (with_reducible refine (opcode_length_right.calls n false _ HA1.out).mono ?_); rintro e w3 ⟨rfl, ⟨nd, rfl⟩⟩)
            go_ret
            exact ⟨rfl, pw_below_drewN HBB.out nd⟩
          | ins s =>
            simp only [opcode_Fld.val] at hcw
            have hme := opcode_me_insert
            have HA1 : Aside0 (opcode_insert_right.f k s = some false) := ⟨A1⟩
            clear A1
            go_wp2_with (go_at_call 60; (with_reducible refine (opcode_insert_right.calls k s false _ HA1.out).mono ?_); rintro e w3 ⟨rfl, hb3⟩)
            go_ret
            exact ⟨rfl, below_step HBB.out hb3⟩
          | nam s =>
            simp only [opcode_Fld.val] at hcw
            have hme := opcode_me_name
            have HA1 : Aside0 (opcode_name_right.f k s = some false) := ⟨A1⟩
            clear A1
            go_wp2_with (go_at_call 68; (with_reducible refine (opcode_name_right.calls k s false _ HA1.out).mono ?_); rintro e w3 ⟨rfl, ⟨nd, rfl⟩⟩)
            go_ret
            exact ⟨rfl, pw_below_drewN HBB.out nd⟩

/-! ### num_join: function 29 -/
def num_join.f (l0 : List Int) : Option (ByteArray) := some (strOfNums l0)
set_option maxHeartbeats 8000000 in
set_option maxRecDepth 100000 in
theorem num_join.calls (A0 : Option Addr) (c0 : Nat) (l0 : List Int) (r : ByteArray) (w : World) (hr0 : Kd.C (Kd.int .u8) w A0 l0.length l0) (hc0 : l0.length ≤ c0) (h : num_join.f l0 = some r) :
    Calls Try.prog 29 #[.slice A0 l0.length c0] w fun e w' => e = .returned (.string r) ∧ Drawn0 w w' := by
  have HR0 := Aside0.mk hr0
  have HC0 := Aside0.mk hc0
  clear hr0 hc0
  have H : (some (strOfNums l0)) = some r := h
  clear h
  obtain rfl := Option.some.inj H
  have hcv2 := Kd.C_string (P := Try.prog) (A := A0) (c := c0) Try.underlying37 Try.underlying5 Try.underlying9 HR0.out
  go_enter Try.func29, Try.ntmps29
  go_wp2
  go_ret
  exact ⟨by first | rfl | (simp; done) | (simp [*]; done), by repeat (first | exact Drawn0.refl _ | apply Drawn0.step)⟩

/-! ### num_Put32: function 19 -/
def num_Put32.f (a0 : Int) : Option (ByteArray) := (num_join.f (([(a0) % 256, (a0 / 256) % 256, (a0 / 65536) % 256, (a0 / 16777216) % 256] : List Int))).bind fun t112 => (some t112)
set_option maxHeartbeats 8000000 in
set_option maxRecDepth 100000 in
theorem num_Put32.calls (a0 : Int) (r : ByteArray) (w : World) (h : num_Put32.f a0 = some r) :
    Calls Try.prog 19 #[.int .i64 a0] w fun e w' => e = .returned (.string r) ∧ Below w.heap.size w w' := by
  have HB := Aside0.mk (Below.refl w.heap.size w)
  have H : ((num_join.f (([(a0) % 256, (a0 / 256) % 256, (a0 / 65536) % 256, (a0 / 16777216) % 256] : List Int))).bind fun t112 => (some t112)) = some r := h
  clear h
  obtain ⟨y109, hy109⟩ : ∃ y_ : List Int, y_ = (([(a0) % 256, (a0 / 256) % 256, (a0 / 65536) % 256, (a0 / 16777216) % 256] : List Int)) := ⟨_, rfl⟩
  replace H : ((num_join.f y109).bind fun t112 => (some t112)) = some r := by first | (rw [hy109]; with_reducible exact H) | (have H2_ := (Option.bind_some _ _).symm.trans H; rw [hy109]; with_reducible exact H2_) | (have H2_ := (Option.bind_some _ _).symm.trans H; with_reducible exact H2_) | with_reducible exact H | (rw [hy109]; exact H) | exact H
  have Ny109 := Aside0.mk hy109
  clear hy109
  replace H := Option.bind_eq_some_iff.mp H
  obtain ⟨t112, A20, H⟩ := H
  replace H : (some t112) = some r := H
  have A2 := Aside0.mk A20
  clear A20
  obtain rfl := Option.some.inj H
  go_enter Try.func19, Try.ntmps19
  go_wp2_with (first | ((with_reducible refine gate_dst (N := 14) rfl ?_); refine Kd.R_lit (Kd.int .u8) _ 5 ?hg (N := 14) ?hd (xs := ([(a0) % 256, (a0 / 256) % 256, (a0 / 65536) % 256, (a0 / 16777216) % 256] : List Int)) (inner := [.int .u8 ((a0) % 256), .int .u8 ((a0 / 256) % 256), .int .u8 ((a0 / 65536) % 256), .int .u8 ((a0 / 16777216) % 256)]) (ok := fun _ => True) (okp := fun _ => True) ?hr ?hp (fun _ hk => hk) trivial (Below.refl _ _) (Nat.le_refl _) (by simp) ?_; (case hd => rfl); (case hg => rfl); (case hr => first | (go_simp; done) | (go_simp; rfl)); (case hp => exact (Reps.one (show Kd.M (Kd.int .u8) _ _ _ ((a0) % 256) [.int .u8 ((a0) % 256)] from rfl) (Reps.one (show Kd.M (Kd.int .u8) _ _ _ ((a0 / 256) % 256) [.int .u8 ((a0 / 256) % 256)] from rfl) (Reps.one (show Kd.M (Kd.int .u8) _ _ _ ((a0 / 65536) % 256) [.int .u8 ((a0 / 65536) % 256)] from rfl) (Reps.one (show Kd.M (Kd.int .u8) _ _ _ ((a0 / 16777216) % 256) [.int .u8 ((a0 / 16777216) % 256)] from rfl) (Reps.none _ _)))))); intro v110 w3 ho4 hb hg_ hnew_; clear hg_ hnew_; (first | rw [← Ny109.out] at ho4 | (simp only [Int.reduceToNat] at ho4; rw [← Ny109.out] at ho4)); have n0_ := Aside0.mk (Kd.R_lower ho4 (below_size (by repeat (first | (with_reducible first | exact HB.out | apply below_alloc | apply pw_below_drewN | apply below_drew1) | exact HB.out)))); have n1_ := Aside0.mk (below_step (by repeat (first | (with_reducible first | exact HB.out | apply below_alloc | apply pw_below_drewN | apply below_drew1) | exact HB.out)) hb); clear HB; have HO111 := n0_; have HB := n1_; clear n0_ n1_; clear hb ho4; obtain ⟨Ao5, co5, eo5⟩ := Kd.R_slice HO111.out; subst eo5) | ((with_reducible refine gate_callee (f := 29) rfl ?_); refine goesL_ (some 15) rfl rfl Try.func29 (by kernel_rfl) rfl #[.slice Ao5 y109.length co5] rfl (by (try simp only [List.map_toArray, List.map_cons, List.map_nil]); first | done | rfl | (simp only [List.length_drop, List.length_take]; rfl)) ?_; (with_reducible refine (num_join.calls _ _ y109 t112 _ ?side1 ?side2 A2.out).mono ?_); (case side1 => repeat (first | exact (Kd.R_reads' HO111.out).2.2 | (with_reducible refine Kd.C_alloc ?_ _) | (with_reducible refine Kd.C_drewN ?_ _) | (with_reducible refine Kd.C_drew ?_))); (case side2 => exact (Kd.R_reads' HO111.out).2.1); rintro e w' ⟨rfl, ⟨nd, rfl⟩⟩; refine ⟨_, rfl, ?_⟩))
  go_ret
  exact ⟨by first | rfl | (simp [errW_none, errW_some] <;> rfl) | (simp [*, errW_none, errW_some] <;> rfl), by repeat (first | (with_reducible first | exact HB.out | apply below_alloc | apply pw_below_drewN | apply below_drew1) | exact HB.out)⟩

end Go.Proofs.Ytgabhndhnjedpaa.P
