/- Scanning: what the program's and the reference's ways through bytes come to. -/
import Derived.Test.YtinoidkmobmcpaaPx3
import Derived.Test.YtinoidkmobmcpaaPx4
import Derived.Test.YtinoidkmobmcpaaPx5
import Derived.Test.YtinoidkmobmcpaaPx6
import Derived.Test.YtinoidkmobmcpaaPx7
import Derived.Test.YtinoidkmobmcpaaFrameTh
namespace Go.Proofs.Ytinoidkmobmcpaa.P
open Go.RowKit Go.Proofs.YtinoidkmobmcpaaW.PrintWords Go.Proofs.YtinoidkmobmcpaaW.PrintLast

abbrev Fr := S39
def blank (s : ByteArray) : Prop := ∀ i, i < s.size → bt s (i : Int) = 255
instance (s : ByteArray) : Decidable (blank s) := by unfold blank; infer_instance
def upTo (a : Nat) : Nat := (a + 31) / 32 * 32
/-- Do bytes that fill a sector up stand at a place? -/
def fillAt (s : ByteArray) (a : Nat) : Prop := ¬ a % 32 = 0 ∧ upTo a ≤ s.size ∧ blank (s.extract a (upTo a))
instance (s : ByteArray) (a : Nat) : Decidable (fillAt s a) := by unfold fillAt; infer_instance
abbrev oneAt (s : ByteArray) (a : Nat) : Int × Int × ByteArray × Int × Int := frOne (s.extract a s.size)
/-- All frames from a place on, and behind them where it ended. -/
def scL : Nat → ByteArray → Int → Int → Nat → List scan_Fnd
  | 0, _, _, _, a => [(false, (⟨0, 0, ⟨#[]⟩⟩ : Fr), (a : Int))]
  | n + 1, s, ep, sq, a => if (oneAt s a).2.2.2.2 = 0 ∧ (oneAt s a).1 = ep ∧ (oneAt s a).2.1 = sq then
        (true, (⟨(oneAt s a).1, (oneAt s a).2.1, (oneAt s a).2.2.1⟩ : Fr), (a : Int) + (oneAt s a).2.2.2.1) :: scL n s ep (wrap64 (sq + 1)) (a + (oneAt s a).2.2.2.1.toNat)
      else if fillAt s a then scL n s ep sq (upTo a) else [(false, (⟨0, 0, ⟨#[]⟩⟩ : Fr), (a : Int))]
theorem scL_ne (s : ByteArray) (ep : Int) : ∀ n a sq, scL n s ep sq a ≠ []
  | 0, _, _ => by simp [scL]
  | n + 1, a, sq => by
    unfold scL
    split
    · simp
    · split
      · exact scL_ne s ep n _ _
      · simp
theorem scL_len (s : ByteArray) (ep : Int) : ∀ n a sq, (scL n s ep sq a).length ≤ n + 1
  | 0, _, _ => by simp [scL]
  | n + 1, a, sq => by
    unfold scL
    split
    · have := scL_len s ep n (a + (oneAt s a).2.2.2.1.toNat) (wrap64 (sq + 1))
      simp only [List.length_cons]
      omega
    · split
      · have := scL_len s ep n (upTo a) sq
        omega
      · simp
/-- How long a frame is that stands at a place. -/
theorem oneAt_len (s : ByteArray) (a : Nat) (_ : a ≤ s.size) (h : (oneAt s a).2.2.2.2 = 0) : 16 ≤ (oneAt s a).2.2.2.1 ∧ (a : Int) + (oneAt s a).2.2.2.1 ≤ s.size := by
  obtain ⟨e, q, d, n, c, ho⟩ : ∃ e q d n c, oneAt s a = (e, q, d, n, c) := ⟨_, _, _, _, _, rfl⟩
  rw [ho] at h ⊢
  rcases frOne_only ho with ⟨hc, _⟩ | ⟨_, hn, hz, _⟩
  · exact absurd h hc
  · rw [ByteArray.size_extract] at hz
    show 16 ≤ n ∧ (a : Int) + n ≤ s.size
    omega
theorem oneAt_len0 (s : ByteArray) (a : Nat) (ha : a ≤ s.size) : 0 ≤ (oneAt s a).2.2.2.1 ∧ (a : Int) + (oneAt s a).2.2.2.1 ≤ s.size := by
  by_cases h : (oneAt s a).2.2.2.2 = 0
  · have := oneAt_len s a ha h
    omega
  · obtain ⟨e, q, d, n, c, ho⟩ : ∃ e q d n c, oneAt s a = (e, q, d, n, c) := ⟨_, _, _, _, _, rfl⟩
    rw [ho] at h ⊢
    rcases frOne_only ho with ⟨_, _, _, _, hn⟩ | ⟨hc, _⟩
    · show 0 ≤ n ∧ (a : Int) + n ≤ s.size
      omega
    · exact absurd hc h
theorem endOf_cons (x : scan_Fnd) (l : List scan_Fnd) (h : l ≠ []) : scan_endOf (x :: l) = scan_endOf l := by
  cases l with
  | nil => exact absurd rfl h
  | cons y l => simp [scan_endOf, List.getLast?_cons]
theorem outs_t (f : Fr) (e : Int) (l : List scan_Fnd) : scan_outs ((true, f, e) :: l) = f :: scan_outs l := by simp [scan_outs]
theorem outs_f (f : Fr) (e : Int) : scan_outs [(false, f, e)] = [] := by simp [scan_outs]
theorem endOf_one (b : Bool) (f : Fr) (e : Int) : scan_endOf [(b, f, e)] = e := by simp [scan_endOf]
theorem scL_end (s : ByteArray) (ep : Int) : ∀ n a sq, a ≤ s.size → ∃ e : Nat, scan_endOf (scL n s ep sq a) = (e : Int) ∧ a ≤ e ∧ e ≤ s.size
  | 0, a, sq, ha => ⟨a, by unfold scL; exact endOf_one _ _ _, Nat.le_refl _, ha⟩
  | n + 1, a, sq, ha => by
    unfold scL
    split
    · rename_i h
      have hl := oneAt_len s a ha h.1
      obtain ⟨e, he, h1, h2⟩ := scL_end s ep n (a + (oneAt s a).2.2.2.1.toNat) (wrap64 (sq + 1)) (by omega)
      exact ⟨e, by rw [endOf_cons _ _ (scL_ne _ _ _ _ _), he], by omega, h2⟩
    · split
      · rename_i h
        obtain ⟨e, he, h1, h2⟩ := scL_end s ep n (upTo a) sq h.2.1
        exact ⟨e, he, by unfold upTo at h1; omega, h2⟩
      · exact ⟨a, endOf_one _ _ _, Nat.le_refl _, ha⟩
theorem scan_Blank_l0 (t : ByteArray) (ht : t.size ≤ 140737488351232) : ∀ (d i : Nat), i + d = t.size → (∀ j, j < i → bt t (j : Int) = 255) → Ev (fun k => scan_Blank.l0 k t (t.size : Int) (i : Int)) (decide (blank t))
  | 0, i, hd, hj => by
    rw [decide_eq_true (show blank t from fun j h => hj j (by omega))]
    exact Ev.step (f := fun _ => some true) (fun k => by rw [scan_Blank.l0, if_neg (by omega)]) (Ev.now _)
  | d + 1, i, hd, hj => by
    refine Ev.step (fun k => by rw [scan_Blank.l0, if_pos (show (i : Int) < (t.size : Int) by omega), if_pos (show (0 : Int) ≤ (i : Int) by omega), if_pos (show (i : Int) < (t.size : Int) by omega)]) ?_
    by_cases c : bt t (i : Int) = 255
    · refine Ev.pos c ?_
      rw [w64 (x := (i : Int) + 1) (by omega) (by omega)]
      refine scan_Blank_l0 t ht d (i + 1) (by omega) (fun j h => ?_)
      rcases Nat.lt_succ_iff_lt_or_eq.1 h with h | rfl
      · exact hj j h
      · exact c
    · rw [decide_eq_false (fun z : blank t => c (z i (by omega)))]
      exact Ev.neg c (Ev.now _)
theorem scan_Blank_ev (t : ByteArray) (ht : t.size ≤ 140737488351232) : Ev (fun k => scan_Blank.f k t) (decide (blank t)) :=
  scan_Blank_l0 t ht t.size 0 (by omega) (fun j h => absurd h (by omega))
theorem ref_Blank13_l0 (t : ByteArray) (ht : t.size ≤ 140737488351232) : ∀ (d i : Nat), i + d = t.size → (∀ j, j < i → bt t (j : Int) = 255) → Ev (fun k => stylusref13_Blank.l0 k t (i : Int)) (decide (blank t))
  | 0, i, hd, hj => by
    rw [decide_eq_true (show blank t from fun j h => hj j (by omega))]
    exact Ev.step (f := fun _ => some true) (fun k => by rw [stylusref13_Blank.l0, if_neg (by omega)]) (Ev.now _)
  | d + 1, i, hd, hj => by
    refine Ev.step (fun k => by rw [stylusref13_Blank.l0, if_pos (show (i : Int) < (t.size : Int) by omega), if_pos (show (0 : Int) ≤ (i : Int) by omega)]) ?_
    by_cases c : bt t (i : Int) = 255
    · refine Ev.pos c ?_
      rw [w64 (x := (i : Int) + 1) (by omega) (by omega)]
      refine ref_Blank13_l0 t ht d (i + 1) (by omega) (fun j h => ?_)
      rcases Nat.lt_succ_iff_lt_or_eq.1 h with h | rfl
      · exact hj j h
      · exact c
    · rw [decide_eq_false (fun z : blank t => c (z i (by omega)))]
      exact Ev.neg c (Ev.now _)
theorem ref_Blank13_ev (t : ByteArray) (ht : t.size ≤ 140737488351232) : Ev (fun k => stylusref13_Blank.f k t) (decide (blank t)) :=
  ref_Blank13_l0 t ht t.size 0 (by omega) (fun j h => absurd h (by omega))
theorem tmod32 (a : Nat) : Int.tmod (a : Int) 32 = ((a % 32 : Nat) : Int) := by
  rw [Int.tmod_eq_emod_of_nonneg (by omega)]
  omega
theorem scan_padding_ev (s : ByteArray) (hs : s.size ≤ 140737488351232) (a : Nat) (ha : a ≤ s.size) : Ev (fun k => scan_padding.f k s (a : Int)) (if fillAt s a then ((upTo a : Nat) : Int) else (a : Int), decide (fillAt s a)) := by
  unfold scan_padding.f
  rw [tmod32]
  by_cases h0 : a % 32 = 0
  · rw [if_neg (fun z : fillAt s a => z.1 h0), decide_eq_false (fun z : fillAt s a => z.1 h0)]
    exact Ev.pos (by omega) (Ev.now _)
  refine Ev.neg (by omega) ?_
  have hu : wrap64 (wrap64 ((a : Int) - ((a % 32 : Nat) : Int)) + 32) = ((upTo a : Nat) : Int) := by
    rw [w64 (x := (a : Int) - ((a % 32 : Nat) : Int)) (by omega) (by omega), w64 (by omega) (by omega)]
    unfold upTo
    omega
  rw [hu]
  by_cases h1 : ((upTo a : Nat) : Int) > (s.size : Int)
  · have n : ¬ fillAt s a := fun z => by have := z.2.1; omega
    rw [if_neg n, decide_eq_false n]
    exact Ev.pos h1 (Ev.now _)
  refine Ev.neg h1 (Ev.pos (by omega) (Ev.pos (by unfold upTo; omega) (Ev.pos (by omega) ?_)))
  refine Ev.bind (scan_Blank_ev _ (by rw [ByteArray.size_extract]; omega)) ?_
  by_cases h2 : blank (s.extract a (upTo a))
  · have y : fillAt s a := ⟨h0, by omega, h2⟩
    rw [if_pos y, decide_eq_true y]
    exact Ev.pos (decide_eq_true h2) (Ev.now _)
  · have n : ¬ fillAt s a := fun z => h2 z.2.2
    rw [if_neg n, decide_eq_false n]
    exact Ev.neg (by show ¬ decide (blank (s.extract a (upTo a))) = true; rw [decide_eq_false h2]; exact Bool.false_ne_true) (Ev.now _)
theorem scan_go_ev (s : ByteArray) (hs : s.size ≤ 140737488351232) (ep : Int) : ∀ (n a : Nat) (sq : Int), a ≤ s.size → s.size - a < n → Ev (fun k => scan_frames.go scan_padding.f k s ep sq (a : Int)) (scL n s ep sq a)
  | 0, a, sq, ha, hn => absurd hn (by omega)
  | n + 1, a, sq, ha, hn => by
    refine Ev.step (fun k => by rw [scan_frames.go, if_pos (show 0 ≤ (a : Int) ∧ (a : Int) ≤ (s.size : Int) by omega)]) ?_
    refine Ev.bind (frame_One_ev _ (by rw [ByteArray.size_extract]; omega)) ?_
    show Ev (fun k => if (oneAt s a).2.2.2.2 = 0 ∧ (oneAt s a).1 = ep ∧ (oneAt s a).2.1 = sq then _ else _) _
    unfold scL
    by_cases c : (oneAt s a).2.2.2.2 = 0 ∧ (oneAt s a).1 = ep ∧ (oneAt s a).2.1 = sq
    · rw [if_pos c]
      have hl := oneAt_len s a ha c.1
      refine Ev.pos c ?_
      have hw : wrap64 ((a : Int) + (oneAt s a).2.2.2.1) = ((a + (oneAt s a).2.2.2.1.toNat : Nat) : Int) := by rw [w64 (by omega) (by omega)]; omega
      have e := scan_go_ev s hs ep n (a + (oneAt s a).2.2.2.1.toNat) (wrap64 (sq + 1)) (by omega) (by omega)
      have hp : (a : Int) + (oneAt s a).2.2.2.1 = ((a + (oneAt s a).2.2.2.1.toNat : Nat) : Int) := by omega
      rw [hp]
      show Ev (fun k => (scan_frames.go scan_padding.f k s ep (wrap64 (sq + 1)) (wrap64 ((a : Int) + (oneAt s a).2.2.2.1))).map _) _
      simp only [hw]
      obtain ⟨k0, hk⟩ := e
      exact ⟨k0, fun k h => by show Option.map _ _ = _; rw [show scan_frames.go scan_padding.f k s ep (wrap64 (sq + 1)) ((a + (oneAt s a).2.2.2.1.toNat : Nat) : Int) = _ from hk k h]; show some ((_, _, wrap64 ((a : Int) + (oneAt s a).2.2.2.1)) :: _) = _; rw [hw]; rfl⟩
    · rw [if_neg c]
      refine Ev.neg c (Ev.bind (scan_padding_ev s hs a ha) ?_)
      by_cases f : fillAt s a
      · rw [if_pos f, if_pos f]
        refine Ev.pos (decide_eq_true f) ?_
        have h1 := f.1
        have h2 := f.2.1
        exact scan_go_ev s hs ep n (upTo a) sq h2 (by unfold upTo at h2 ⊢; omega)
      · rw [if_neg f]
        refine Ev.neg (by rw [decide_eq_false f]; exact Bool.false_ne_true) ?_
        rw [if_neg f]
        exact Ev.now _
def scOf (s : ByteArray) (ep sq : Int) : List scan_Fnd := scL (s.size + 1) s ep sq 0
theorem scan_Run_ev (s : ByteArray) (hs : s.size ≤ 900000) (ep sq : Int) : Ev (fun k => scan_Run.f k s ep sq) (scan_outs (scOf s ep sq), scan_endOf (scOf s ep sq)) := by
  unfold scan_Run.f scan_Run.of
  refine Ev.bind (scan_go_ev s (by omega) ep (s.size + 1) 0 sq (by omega) (by omega)) ?_
  have := scL_len s ep (s.size + 1) 0 sq
  exact Ev.pos (show (scL (s.size + 1) s ep sq 0).length ≤ 1000000 by omega) (Ev.now _)
def whyAt (s : ByteArray) (e : Int) : Int := if e = (s.size : Int) then 0 else if (oneAt s e.toNat).2.2.2.2 = 0 then 3 else (oneAt s e.toNat).2.2.2.2
theorem scan_Why_ev (s : ByteArray) (hs : s.size ≤ 900000) (ep sq : Int) : Ev (fun k => scan_Why.f k s ep sq) (whyAt s (scan_endOf (scOf s ep sq))) := by
  unfold scan_Why.f
  refine Ev.bind (scan_Run_ev s hs ep sq) ?_
  obtain ⟨e, he, h1, h2⟩ := scL_end s ep (s.size + 1) 0 sq (by omega)
  have he : scan_endOf (scOf s ep sq) = (e : Int) := he
  rw [he]
  unfold whyAt
  by_cases c : (e : Int) = (s.size : Int)
  · rw [if_pos c]
    exact Ev.pos c (Ev.now _)
  rw [if_neg c, Int.toNat_natCast]
  refine Ev.neg c (Ev.pos (by show (0 : Int) ≤ (e : Int); omega) (Ev.pos (by show (e : Int) ≤ (s.size : Int); omega) (Ev.bind (frame_One_ev _ (by rw [ByteArray.size_extract]; omega)) ?_)))
  show Ev (fun k => if (oneAt s e).2.2.2.2 = 0 then _ else _) (if (oneAt s e).2.2.2.2 = 0 then _ else _)
  by_cases z : (oneAt s e).2.2.2.2 = 0
  · refine Ev.pos z ?_
    rw [if_pos z]
    exact Ev.now _
  · refine Ev.neg z ?_
    rw [if_neg z]
    exact Ev.now _
theorem ref_Run13_ev (s : ByteArray) (hs : s.size ≤ 900000) (ep : Int) : ∀ (n a : Nat) (sq : Int) (acc : List Fr), a ≤ s.size → s.size - a < n → acc.length + n ≤ 4000000 →
    Ev (fun k => stylusref13_Run.l0 k s ep sq acc (a : Int)) (acc ++ scan_outs (scL n s ep sq a), scan_endOf (scL n s ep sq a))
  | 0, a, sq, acc, ha, hn, _ => absurd hn (by omega)
  | n + 1, a, sq, acc, ha, hn, hacc => by
    have hu : wrap64 (wrap64 (Int.tdiv (wrap64 ((a : Int) + 31)) 32) * 32) = ((upTo a : Nat) : Int) := by
      rw [w64 (x := (a : Int) + 31) (by omega) (by omega), Int.tdiv_eq_ediv_of_nonneg (by omega), w64 (x := ((a : Int) + 31) / 32) (by omega) (by omega), w64 (by omega) (by omega)]
      unfold upTo
      omega
    have key : ∀ b : Bool, (b = true ↔ (oneAt s a).2.2.2.2 = 0 ∧ (oneAt s a).1 = ep ∧ (oneAt s a).2.1 = sq) →
        Ev (fun k => stylusref13_Run.j1 k s ep sq acc (a : Int) (oneAt s a).2.2.2.1 ((upTo a : Nat) : Int) b (oneAt s a).1 (oneAt s a).2.1 (oneAt s a).2.2.1) (acc ++ scan_outs (scL (n + 1) s ep sq a), scan_endOf (scL (n + 1) s ep sq a)) := by
      intro b hb
      unfold scL
      cases b with
      | true =>
        have c := hb.1 rfl
        have hl := oneAt_len s a ha c.1
        rw [if_pos c]
        refine Ev.step (fun k => by rw [stylusref13_Run.j1, if_pos (rfl : true = true), if_pos (show acc.length < 4398046511104 by omega)]) ?_
        have hw : wrap64 ((a : Int) + (oneAt s a).2.2.2.1) = ((a + (oneAt s a).2.2.2.1.toNat : Nat) : Int) := by rw [w64 (by omega) (by omega)]; omega
        rw [hw, outs_t, endOf_cons _ _ (scL_ne _ _ _ _ _), show acc ++ (⟨(oneAt s a).1, (oneAt s a).2.1, (oneAt s a).2.2.1⟩ : Fr) :: scan_outs (scL n s ep (wrap64 (sq + 1)) (a + (oneAt s a).2.2.2.1.toNat)) = (acc ++ [(⟨(oneAt s a).1, (oneAt s a).2.1, (oneAt s a).2.2.1⟩ : Fr)]) ++ scan_outs (scL n s ep (wrap64 (sq + 1)) (a + (oneAt s a).2.2.2.1.toNat)) by simp]
        exact ref_Run13_ev s hs ep n _ _ _ (by omega) (by omega) (by rw [List.length_append]; simp only [List.length_cons, List.length_nil]; omega)
      | false =>
        have c : ¬ ((oneAt s a).2.2.2.2 = 0 ∧ (oneAt s a).1 = ep ∧ (oneAt s a).2.1 = sq) := fun z => Bool.false_ne_true (hb.2 z)
        rw [if_neg c]
        refine Ev.step (fun k => by rw [stylusref13_Run.j1, if_neg Bool.false_ne_true, tmod32]) ?_
        by_cases h0 : a % 32 = 0
        · rw [if_neg (fun z : fillAt s a => z.1 h0), outs_f, endOf_one, List.append_nil]
          exact Ev.pos (by omega) (Ev.now _)
        refine Ev.neg (by omega) ?_
        by_cases h1 : ((upTo a : Nat) : Int) ≤ (s.size : Int)
        rotate_left
        · rw [if_neg (fun z : fillAt s a => h1 (by have := z.2.1; omega)), outs_f, endOf_one, List.append_nil]
          exact Ev.neg h1 (Ev.now _)
        refine Ev.pos h1 (Ev.pos (by omega) (Ev.pos (by unfold upTo; omega) (Ev.bind (ref_Blank13_ev _ (by rw [ByteArray.size_extract]; omega)) ?_)))
        by_cases h2 : blank (s.extract a (upTo a))
        · rw [if_pos (show fillAt s a from ⟨h0, by omega, h2⟩)]
          refine Ev.pos (decide_eq_true h2) ?_
          have hlt : a < upTo a := by unfold upTo; omega
          exact ref_Run13_ev s hs ep n (upTo a) sq acc (by omega) (by omega) (by omega)
        · rw [if_neg (fun z : fillAt s a => h2 z.2.2), outs_f, endOf_one, List.append_nil]
          refine Ev.neg ?_ (Ev.now _)
          show ¬ decide (blank (s.extract a (upTo a))) = true
          rw [decide_eq_false h2]
          exact Bool.false_ne_true
    refine Ev.step (fun k => by rw [stylusref13_Run.l0, if_pos (show (0 : Int) ≤ (a : Int) by omega), if_pos (show (a : Int) ≤ (s.size : Int) by omega), hu]) ?_
    refine Ev.bind (ref_One_ev _ (by rw [ByteArray.size_extract]; omega)) ?_
    show Ev (fun k => if (oneAt s a).2.2.2.2 = 0 then (if (oneAt s a).1 = ep then _ else _) else _) _
    by_cases c1 : (oneAt s a).2.2.2.2 = 0
    · refine Ev.pos c1 ?_
      by_cases c2 : (oneAt s a).1 = ep
      · refine Ev.pos c2 (key _ ?_)
        show ((oneAt s a).2.1 == sq) = true ↔ _
        rw [beq_iff_eq]
        exact ⟨fun z => ⟨c1, c2, z⟩, fun z => z.2.2⟩
      · exact Ev.neg c2 (key false ⟨fun z => absurd z Bool.false_ne_true, fun z => absurd z.2.1 c2⟩)
    · exact Ev.neg c1 (key false ⟨fun z => absurd z Bool.false_ne_true, fun z => absurd z.1 c1⟩)
theorem ref_Run13 (s : ByteArray) (hs : s.size ≤ 900000) (ep sq : Int) : Ev (fun k => stylusref13_Run.f k s ep sq) (scan_outs (scOf s ep sq), scan_endOf (scOf s ep sq)) := by
  have := ref_Run13_ev s hs ep (s.size + 1) 0 sq [] (by omega) (by omega) (by simp only [List.length_nil]; omega)
  rw [List.nil_append] at this
  exact this
theorem ref_Why13_ev (s : ByteArray) (hs : s.size ≤ 900000) (ep sq : Int) : Ev (fun k => stylusref13_Why.f k s ep sq) (whyAt s (scan_endOf (scOf s ep sq))) := by
  unfold stylusref13_Why.f
  refine Ev.bind (ref_Run13 s hs ep sq) ?_
  obtain ⟨e, he, h1, h2⟩ := scL_end s ep (s.size + 1) 0 sq (by omega)
  have he : scan_endOf (scOf s ep sq) = (e : Int) := he
  rw [he]
  unfold whyAt
  by_cases c : (e : Int) = (s.size : Int)
  · rw [if_pos c]
    exact Ev.pos c (Ev.now _)
  rw [if_neg c, Int.toNat_natCast]
  refine Ev.neg c (Ev.pos (by show (0 : Int) ≤ (e : Int); omega) (Ev.pos (by show (e : Int) ≤ (s.size : Int); omega) (Ev.bind (ref_One_ev _ (by rw [ByteArray.size_extract]; omega)) ?_)))
  show Ev (fun k => if (oneAt s e).2.2.2.2 = 0 then _ else _) (if (oneAt s e).2.2.2.2 = 0 then _ else _)
  by_cases z : (oneAt s e).2.2.2.2 = 0
  · refine Ev.pos z ?_
    rw [if_pos z]
    exact Ev.now _
  · refine Ev.neg z ?_
    rw [if_neg z]
    exact Ev.now _
theorem ref_Same13_l0 (l : List Fr) (hl : l.length ≤ 4000000) : ∀ (d i : Nat), i + d = l.length → Ev (fun k => stylusref13_Same.l0 k l l (i : Int)) true
  | 0, i, hd => Ev.step (f := fun _ => some true) (fun k => by rw [stylusref13_Same.l0, if_neg (by omega)]) (Ev.now _)
  | d + 1, i, hd => by
    refine Ev.step (fun k => by rw [stylusref13_Same.l0, if_pos (show (i : Int) < (l.length : Int) by omega), if_pos (show (0 : Int) ≤ (i : Int) by omega), if_pos (show (i : Int) < (l.length : Int) by omega), if_neg (by simp), w64 (x := (i : Int) + 1) (by omega) (by omega)]) ?_
    exact ref_Same13_l0 l hl d (i + 1) (by omega)
theorem ref_Same13_ev (l : List Fr) (hl : l.length ≤ 4000000) : Ev (fun k => stylusref13_Same.f k l l) true := by
  unfold stylusref13_Same.f
  exact Ev.pos rfl (ref_Same13_l0 l hl l.length 0 (by omega))
theorem lives13 : Ev (fun k => styluslaw13_lives.f k) true := Ev.of (fun k => styluslaw13_lives.mono k) (k := 60) (by decide +kernel)
end Go.Proofs.Ytinoidkmobmcpaa.P
