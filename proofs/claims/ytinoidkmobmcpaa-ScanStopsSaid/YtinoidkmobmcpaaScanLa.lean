/- Frames that are laid one behind the other: their bytes, and how they are found. -/
import Derived.Test.YtinoidkmobmcpaaPx4
import Derived.Test.YtinoidkmobmcpaaPx8
import Derived.Test.YtinoidkmobmcpaaScanMo
namespace Go.Proofs.Ytinoidkmobmcpaa.P
open Go.RowKit Go.Proofs.YtinoidkmobmcpaaW.PrintWords Go.Proofs.YtinoidkmobmcpaaW.PrintLast Go.Proofs.YtinoidkmobmcpaaW.PrintMore

abbrev Pt := S41
/-- How many bytes fill up behind a frame that ends at a place. -/
def padN (p : Pt) (e : Nat) : Nat := if p.f1 = true ∧ 0 < e % 32 then 32 - e % 32 else 0
def endP (p : Pt) (a : Nat) : Nat := a + (16 + p.f0.size) + padN p (a + (16 + p.f0.size))
def pieceP (ep q : Int) (p : Pt) (a : Nat) : ByteArray := laidOf ep q p.f0 ++ fillN (padN p (a + (16 + p.f0.size)))
def tailP (ep : Int) : List Pt → Int → Nat → ByteArray
  | [], _, _ => ⟨#[]⟩
  | p :: l, q, a => pieceP ep q p a ++ tailP ep l (q + 1) (endP p a)
def placesP : List Pt → Nat → List Int
  | [], _ => []
  | p :: l, a => (a : Int) :: placesP l (endP p a)
def endL : List Pt → Nat → Nat
  | [], a => a
  | p :: l, a => endL l (endP p a)
def foundP (ep : Int) : List Pt → Int → Nat → List scan_Fnd
  | [], _, _ => []
  | p :: l, q, a => (true, (⟨ep, q, p.f0⟩ : Fr), ((a + (16 + p.f0.size) : Nat) : Int)) :: foundP ep l (q + 1) (endP p a)
theorem pieceP_size (ep q : Int) (p : Pt) (a : Nat) : (pieceP ep q p a).size = 16 + p.f0.size + padN p (a + (16 + p.f0.size)) := by
  unfold pieceP
  rw [ByteArray.size_append, laidOf_size, fillN_size]
theorem endP_size (ep q : Int) (p : Pt) (a : Nat) : endP p a = a + (pieceP ep q p a).size := by
  rw [pieceP_size]
  unfold endP
  omega
theorem padN_le (p : Pt) (e : Nat) : padN p e ≤ 31 := by unfold padN; split <;> omega
theorem tailP_size (ep : Int) : ∀ (l : List Pt) (q : Int) (a : Nat), a + (tailP ep l q a).size = endL l a
  | [], _, _ => rfl
  | p :: l, q, a => by
    have := tailP_size ep l (q + 1) (endP p a)
    unfold tailP endL
    rw [ByteArray.size_append, ← this, endP_size ep q]
    omega
theorem endL_le : ∀ (l : List Pt) (a : Nat), a ≤ endL l a
  | [], _ => Nat.le_refl _
  | p :: l, a => by
    have := endL_le l (endP p a)
    unfold endL
    unfold endP at this
    unfold endP
    omega
theorem endL_bound (m : Nat) : ∀ (l : List Pt) (a : Nat), (∀ p ∈ l, p.f0.size ≤ m) → endL l a ≤ a + l.length * (47 + m)
  | [], _, _ => by simp [endL]
  | p :: l, a, h => by
    have := endL_bound m l (endP p a) (fun x hx => h x (List.mem_cons_of_mem _ hx))
    have h1 := h p List.mem_cons_self
    have h2 := padN_le p (a + (16 + p.f0.size))
    unfold endL
    unfold endP at this
    unfold endP
    rw [List.length_cons, Nat.succ_mul]
    omega
theorem outs_cons (ep : Int) : ∀ (l : List Pt) (q : Int) (a : Nat) (r : List scan_Fnd), scan_outs (foundP ep l q a ++ r) = (l.mapIdx fun i p => (⟨ep, q + (i : Int), p.f0⟩ : Fr)) ++ scan_outs r
  | [], _, _, _ => rfl
  | p :: l, q, a, r => by
    unfold foundP
    rw [List.cons_append, outs_t, outs_cons ep l (q + 1) (endP p a) r, List.mapIdx_cons, List.cons_append, show q + ((0 : Nat) : Int) = q by omega]
    congr 2
    apply congrArg (fun f => l.mapIdx f)
    funext i p'
    rw [show q + 1 + (i : Int) = q + ((i + 1 : Nat) : Int) by omega]
theorem endOf_app : ∀ (x l : List scan_Fnd), l ≠ [] → scan_endOf (x ++ l) = scan_endOf l
  | [], _, _ => rfl
  | y :: x, l, h => by rw [List.cons_append, endOf_cons _ _ (by simp [h]), endOf_app x l h]
/-- A place within a text put together. -/
theorem cut_at (x y : ByteArray) : (x ++ y).extract x.size (x ++ y).size = y := by
  apply cat_ext
  · rw [ByteArray.size_extract, ByteArray.size_append]; omega
  · intro i hi
    rw [ByteArray.size_extract, ByteArray.size_append] at hi
    rw [cat_piece _ _ _ _ (by rw [ByteArray.size_append]; omega) (Nat.le_refl _), cat_right]
/-- A filled-up place behind a frame. -/
theorem fill_next (pre y : ByteArray) (p : Pt) (h : 0 < padN p pre.size) : fillAt (pre ++ (fillN (padN p pre.size) ++ y)) pre.size ∧ upTo pre.size = pre.size + padN p pre.size := by
  have h1 : padN p pre.size = 32 - pre.size % 32 ∧ 0 < pre.size % 32 := by
    unfold padN at h ⊢
    split
    · rename_i c; exact ⟨rfl, c.2⟩
    · rename_i c; rw [if_neg c] at h; omega
  have hu : upTo pre.size = pre.size + padN p pre.size := by unfold upTo; omega
  have hz := fillN_size (padN p pre.size)
  refine ⟨⟨by omega, by rw [hu, ByteArray.size_append, ByteArray.size_append]; omega, ?_⟩, hu⟩
  intro i hi
  rw [hu, ByteArray.size_extract, ByteArray.size_append, ByteArray.size_append] at hi
  rw [hu, cat_piece _ _ _ _ (by omega) (by rw [ByteArray.size_append, ByteArray.size_append]; omega), cat_right, cat_left _ _ _ (by omega)]
  exact fillN_bt _ _ (by omega)
theorem not_begins (s : ByteArray) (h : 0 < s.size) (h0 : bt s 0 ≠ 83) : (frOne s).2.2.2.2 = 5 := by
  unfold frOne
  rw [if_pos (fun z => h0 (z.1 h))]
/-- Frames that are laid are found, and it goes on behind them. -/
theorem scL_found (ep : Int) (hep : 0 ≤ ep ∧ ep ≤ 999999) : ∀ (l : List Pt) (n : Nat) (q : Int) (pre y : ByteArray), (∀ p ∈ l, p.f0.size ≤ 1024) → 0 ≤ q → q + l.length ≤ 2147483647 → (tailP ep l q pre.size ++ y).size < n →
    ∃ n', y.size < n' ∧ scL n (pre ++ (tailP ep l q pre.size ++ y)) ep q pre.size = foundP ep l q pre.size ++ scL n' (pre ++ (tailP ep l q pre.size ++ y)) ep (q + l.length) (endL l pre.size)
  | [], n, q, pre, y, _, _, _, hn => by
    refine ⟨n, ?_, ?_⟩
    · rw [ByteArray.size_append] at hn
      omega
    · rw [show q + (([] : List Pt).length : Int) = q by simp]
      rfl
  | p :: l, 0, q, pre, y, _, _, _, hn => absurd hn (Nat.not_lt_zero _)
  | p :: l, n + 1, q, pre, y, hd, h0, h1, hn => by
    have hp := hd p List.mem_cons_self
    rw [List.length_cons] at h1
    have eT : pre ++ (tailP ep (p :: l) q pre.size ++ y) = pre ++ (laidOf ep q p.f0 ++ (fillN (padN p (pre.size + (16 + p.f0.size))) ++ (tailP ep l (q + 1) (endP p pre.size) ++ y))) := by
      show pre ++ ((pieceP ep q p pre.size ++ tailP ep l (q + 1) (endP p pre.size)) ++ y) = _
      unfold pieceP
      simp only [ByteArray.append_assoc]
    have e0 : oneAt (pre ++ (tailP ep (p :: l) q pre.size ++ y)) pre.size = (ep, q, p.f0, 16 + (p.f0.size : Int), 0) := by
      unfold oneAt
      rw [eT, cut_at]
      exact frOne_laid ep q p.f0 _ ⟨hep.1, hep.2, h0, by omega⟩ hp
    have hw : wrap64 (q + 1) = q + 1 := w64 (by omega) (by omega)
    have ez : (tailP ep (p :: l) q pre.size ++ y).size = 16 + p.f0.size + padN p (pre.size + (16 + p.f0.size)) + (tailP ep l (q + 1) (endP p pre.size) ++ y).size := by
      show ((pieceP ep q p pre.size ++ tailP ep l (q + 1) (endP p pre.size)) ++ y).size = _
      rw [ByteArray.size_append, ByteArray.size_append, ByteArray.size_append, pieceP_size]
      omega
    have hgo : ∀ m, (tailP ep l (q + 1) (endP p pre.size) ++ y).size < m → ∃ n', y.size < n' ∧ scL m (pre ++ (tailP ep (p :: l) q pre.size ++ y)) ep (q + 1) (endP p pre.size) = foundP ep l (q + 1) (endP p pre.size) ++ scL n' (pre ++ (tailP ep (p :: l) q pre.size ++ y)) ep (q + 1 + l.length) (endL l (endP p pre.size)) := by
      intro m hm
      have es : (pre ++ pieceP ep q p pre.size).size = endP p pre.size := by rw [ByteArray.size_append, ← endP_size]
      have := scL_found ep hep l m (q + 1) (pre ++ pieceP ep q p pre.size) y (fun x hx => hd x (List.mem_cons_of_mem _ hx)) (by omega) (by omega) (by rw [es]; exact hm)
      rw [es] at this
      have e2 : (pre ++ pieceP ep q p pre.size) ++ (tailP ep l (q + 1) (endP p pre.size) ++ y) = pre ++ (tailP ep (p :: l) q pre.size ++ y) := by
        show _ = pre ++ ((pieceP ep q p pre.size ++ tailP ep l (q + 1) (endP p pre.size)) ++ y)
        simp only [ByteArray.append_assoc]
      rw [e2] at this
      exact this
    have en : (16 + (p.f0.size : Int)).toNat = 16 + p.f0.size := by omega
    have es : ((pre.size + (16 + p.f0.size) : Nat) : Int) = (pre.size : Int) + (16 + (p.f0.size : Int)) := by omega
    unfold foundP endL
    rw [show scL (n + 1) (pre ++ (tailP ep (p :: l) q pre.size ++ y)) ep q pre.size = (true, (⟨ep, q, p.f0⟩ : Fr), (pre.size : Int) + (16 + (p.f0.size : Int))) :: scL n (pre ++ (tailP ep (p :: l) q pre.size ++ y)) ep (q + 1) (pre.size + (16 + p.f0.size)) by
      rw [scL, e0, if_pos ⟨rfl, rfl, rfl⟩, hw, en], ← es]
    simp only [List.cons_append]
    rw [List.length_cons, show q + ((l.length + 1 : Nat) : Int) = q + 1 + l.length by omega]
    by_cases c : padN p (pre.size + (16 + p.f0.size)) = 0
    · have ee : endP p pre.size = pre.size + (16 + p.f0.size) := by unfold endP; omega
      obtain ⟨n', g1, g2⟩ := hgo n (by omega)
      refine ⟨n', g1, ?_⟩
      rw [ee] at g2 ⊢
      rw [g2]
    · cases n with
      | zero => omega
      | succ n =>
        have es2 : (pre ++ laidOf ep q p.f0).size = pre.size + (16 + p.f0.size) := by rw [ByteArray.size_append, laidOf_size]
        obtain ⟨f1, f2⟩ := fill_next (pre ++ laidOf ep q p.f0) (tailP ep l (q + 1) (endP p pre.size) ++ y) p (by rw [es2]; omega)
        rw [es2] at f1 f2
        have e3 : (pre ++ laidOf ep q p.f0) ++ (fillN (padN p (pre.size + (16 + p.f0.size))) ++ (tailP ep l (q + 1) (endP p pre.size) ++ y)) = pre ++ (tailP ep (p :: l) q pre.size ++ y) := by
          rw [eT]
          simp only [ByteArray.append_assoc]
        rw [e3] at f1
        have eo : (oneAt (pre ++ (tailP ep (p :: l) q pre.size ++ y)) (pre.size + (16 + p.f0.size))).2.2.2.2 = 5 := by
          unfold oneAt
          rw [← e3, ← es2, cut_at]
          refine not_begins _ ?_ ?_
          · rw [ByteArray.size_append, fillN_size, es2]; omega
          · have := cat_left (fillN (padN p (pre.size + (16 + p.f0.size)))) (tailP ep l (q + 1) (endP p pre.size) ++ y) 0 (by rw [fillN_size]; omega)
            rw [es2]
            show bt _ ((0 : Nat) : Int) ≠ 83
            rw [this, fillN_bt _ _ (by omega)]
            decide
        obtain ⟨n', g1, g2⟩ := hgo n (by omega)
        refine ⟨n', g1, ?_⟩
        rw [scL, if_neg (fun z => by rw [eo] at z; exact absurd z.1 (by decide)), if_pos f1, f2]
        rw [show pre.size + (16 + p.f0.size) + padN p (pre.size + (16 + p.f0.size)) = endP p pre.size from rfl, g2]
/-- It ends where nothing begins and nothing fills up. -/
theorem scL_stop (ep q : Int) (n : Nat) (pre y : ByteArray) (hn : y.size < n) (h : 0 < y.size → bt y 0 ≠ 83 ∧ bt y 0 ≠ 255) : scL n (pre ++ y) ep q pre.size = [(false, (⟨0, 0, ⟨#[]⟩⟩ : Fr), (pre.size : Int))] := by
  cases n with
  | zero => omega
  | succ n =>
    have e1 : (oneAt (pre ++ y) pre.size).2.2.2.2 ≠ 0 := by
      unfold oneAt
      rw [cut_at]
      by_cases c : 0 < y.size
      · rw [not_begins y c (h c).1]
        decide
      · unfold frOne
        have hb : begins y := ⟨fun z => absurd z c, fun z => absurd (by omega) c⟩
        rw [if_neg (not_not_intro hb), if_pos (by omega)]
        decide
    have e2 : ¬ fillAt (pre ++ y) pre.size := by
      intro z
      have h1 := z.1
      have h2 := z.2.1
      rw [ByteArray.size_append] at h2
      have h3 : pre.size < upTo pre.size := by unfold upTo; omega
      have h4 := z.2.2 0 (by rw [ByteArray.size_extract, ByteArray.size_append]; omega)
      rw [cat_piece _ _ _ _ (by omega) (by rw [ByteArray.size_append]; omega), cat_right] at h4
      exact (h (by omega)).2 h4
    rw [scL, if_neg (fun z => e1 z.1), if_neg e2]
def okP (l : List Pt) (ep q : Int) : Prop := (∀ i : Nat, i < l.length → i < 12 → (rd_T41 l (i : Int)).f0.size ≤ 100) ∧ l.length ≤ 12 ∧ 0 ≤ ep ∧ ep ≤ 999999 ∧ 0 ≤ q ∧ q ≤ 1000000
theorem small_ev (l : List Pt) (ep q : Int) : ∃ b : Bool, Ev (fun k => styluslaw13_small.f k l ep q) b ∧ (b = true → okP l ep q) := by
  have stop : ∀ i : Int, (∀ j : Nat, j < l.length → j < 12 → (rd_T41 l (j : Int)).f0.size ≤ 100) → ∃ b : Bool, Ev (fun k => styluslaw13_small.j1 k l ep q i false) b ∧ (b = true → okP l ep q) := by
    intro i hj
    have st : ∀ {r : Bool}, Ev (fun _ => if (l.length : Int) ≤ 12 then (if ep ≥ 0 then (if ep ≤ 999999 then (if q ≥ 0 then (some (decide (q ≤ 1000000))) else (some false)) else (some false)) else (some false)) else (some false)) r → Ev (fun k => styluslaw13_small.j1 k l ep q i false) r :=
      fun e => Ev.step (fun k => by rw [styluslaw13_small.j1, if_neg Bool.false_ne_true]) e
    have no : ∀ {P : Prop}, false = true → P := fun z => absurd z Bool.false_ne_true
    by_cases c0 : (l.length : Int) ≤ 12
    rotate_left
    · exact ⟨false, st (Ev.neg c0 (Ev.now _)), no⟩
    by_cases c1 : ep ≥ 0
    rotate_left
    · exact ⟨false, st (Ev.pos c0 (Ev.neg c1 (Ev.now _))), no⟩
    by_cases c2 : ep ≤ 999999
    rotate_left
    · exact ⟨false, st (Ev.pos c0 (Ev.pos c1 (Ev.neg c2 (Ev.now _)))), no⟩
    by_cases c3 : q ≥ 0
    rotate_left
    · exact ⟨false, st (Ev.pos c0 (Ev.pos c1 (Ev.pos c2 (Ev.neg c3 (Ev.now _))))), no⟩
    exact ⟨decide (q ≤ 1000000), st (Ev.pos c0 (Ev.pos c1 (Ev.pos c2 (Ev.pos c3 (Ev.now _))))), fun z => ⟨hj, by omega, c1, c2, c3, of_decide_eq_true z⟩⟩
  have go : ∀ (d i : Nat), i + d = 12 → (∀ j : Nat, j < i → j < l.length → j < 12 → (rd_T41 l (j : Int)).f0.size ≤ 100) → ∃ b : Bool, Ev (fun k => styluslaw13_small.l0 k l ep q (i : Int)) b ∧ (b = true → okP l ep q) := by
    intro d
    induction d with
    | zero =>
      intro i hi hj
      obtain ⟨b, h1, h2⟩ := stop (i : Int) (fun j h h' => hj j (by omega) h h')
      refine ⟨b, Ev.step (fun k => ?_) h1, h2⟩
      rw [styluslaw13_small.l0]
      by_cases c : (i : Int) < (l.length : Int)
      · rw [if_pos c, decide_eq_false (by omega)]
      · rw [if_neg c]
    | succ d ih =>
      intro i hi hj
      by_cases c : i < l.length
      rotate_left
      · obtain ⟨b, h1, h2⟩ := stop (i : Int) (fun j h h' => hj j (by omega) h h')
        exact ⟨b, Ev.step (fun k => by rw [styluslaw13_small.l0, if_neg (show ¬ (i : Int) < (l.length : Int) by omega)]) h1, h2⟩
      have st : ∀ {r : Bool} {g : Nat → Option Bool}, (∀ k, styluslaw13_small.j1 (k + 1) l ep q (i : Int) true = g k) → Ev g r → Ev (fun k => styluslaw13_small.l0 k l ep q (i : Int)) r :=
        fun hg e => Ev.step (fun k => by rw [styluslaw13_small.l0, if_pos (show (i : Int) < (l.length : Int) by omega), decide_eq_true (show (i : Int) < 12 by omega)]) (Ev.step hg e)
      by_cases c2 : ((rd_T41 l (i : Int)).f0.size : Int) > 100
      · exact ⟨false, st (g := fun _ => some false) (fun k => by rw [styluslaw13_small.j1, if_pos (rfl : true = true), if_pos (by omega), if_pos (by omega), if_pos c2]) (Ev.now _), fun z => absurd z Bool.false_ne_true⟩
      · obtain ⟨b, h1, h2⟩ := ih (i + 1) (by omega) (fun j hlt h h' => by
          rcases Nat.lt_succ_iff_lt_or_eq.1 hlt with h3 | rfl
          · exact hj j h3 h h'
          · omega)
        refine ⟨b, st (fun k => ?_) h1, h2⟩
        rw [styluslaw13_small.j1, if_pos (rfl : true = true), if_pos (show (0 : Int) ≤ (i : Int) by omega), if_pos (show (i : Int) < (l.length : Int) by omega), if_neg c2, w64 (x := (i : Int) + 1) (by omega) (by omega)]
        rfl
  exact go 12 0 (by omega) (fun j hj => absurd hj (by omega))
theorem okP_all {l : List Pt} {ep q : Int} (h : okP l ep q) : ∀ p ∈ l, p.f0.size ≤ 100 := by
  intro p hp
  obtain ⟨i, hi, rfl⟩ := List.getElem_of_mem hp
  have h1 := h.2.1
  have := h.1 i hi (by omega)
  unfold rd_T41 at this
  rw [Int.toNat_natCast, List.getD_eq_getElem?_getD, List.getElem?_eq_getElem hi] at this
  exact this
theorem rd_drop (l : List Pt) (i : Nat) (h : i < l.length) : l.drop i = rd_T41 l (i : Int) :: l.drop (i + 1) := by
  rw [List.drop_eq_getElem_cons h]
  unfold rd_T41
  rw [Int.toNat_natCast, List.getD_eq_getElem?_getD, List.getElem?_eq_getElem h]
  rfl
theorem laid_l0 (l : List Pt) (ep q : Int) (ok : okP l ep q) : ∀ (d i : Nat) (s : ByteArray) (at_ : List Int), i + d = l.length → s.size + d * 200 ≤ 100000 → at_.length = i →
    Ev (fun k => styluslaw13_laid.l0 k l ep q s at_ (i : Int)) (s ++ tailP ep (l.drop i) (q + i) s.size, at_ ++ placesP (l.drop i) s.size)
  | 0, i, s, at_, h, _, _ => by
    obtain rfl : i = l.length := by omega
    rw [List.drop_length]
    unfold tailP placesP
    rw [List.append_nil, show s ++ (⟨#[]⟩ : ByteArray) = s from ByteArray.append_empty]
    exact Ev.step (f := fun _ => some (s, at_)) (fun k => by rw [styluslaw13_laid.l0, if_neg (by omega)]) (Ev.now _)
  | d + 1, i, s, at_, h, hz, hl => by
    have hlen := ok.2.1
    have hp := okP_all ok (rd_T41 l (i : Int)) (by
      have := rd_drop l i (by omega)
      exact List.mem_of_mem_drop (this ▸ List.mem_cons_self))
    rw [rd_drop l i (by omega)]
    refine Ev.step (fun k => by rw [styluslaw13_laid.l0, if_pos (show (i : Int) < (l.length : Int) by omega), if_pos (show (0 : Int) ≤ (i : Int) by omega)]) ?_
    generalize rd_T41 l (i : Int) = p at hp ⊢
    obtain ⟨_, _, g0, g1, g2, g3⟩ := ok
    have ok' : okP l ep q := ⟨by assumption, by assumption, g0, g1, g2, g3⟩
    have hw : wrap64 (q + (i : Int)) = q + (i : Int) := w64 (by omega) (by omega)
    have hlay : frLay ep (q + (i : Int)) p.f0 = (laidOf ep (q + (i : Int)) p.f0, 0) := by
      unfold frLay
      rw [if_neg (not_not_intro (by omega)), if_neg (by omega)]
    have hls := laidOf_size ep (q + (i : Int)) p.f0
    have hsl : (s ++ laidOf ep (q + (i : Int)) p.f0).size = s.size + (16 + p.f0.size) := by rw [ByteArray.size_append, hls]
    have hpl := padN_le p (s.size + (16 + p.f0.size))
    have key : ∀ s' : ByteArray, s' = s ++ pieceP ep (q + (i : Int)) p s.size → Ev (fun k => styluslaw13_laid.l0 k l ep q s' (at_ ++ [(s.size : Int)]) (wrap64 ((i : Int) + 1)))
        (s ++ tailP ep (p :: l.drop (i + 1)) (q + (i : Int)) s.size, at_ ++ placesP (p :: l.drop (i + 1)) s.size) := by
      rintro s' rfl
      have ez : (s ++ pieceP ep (q + (i : Int)) p s.size).size = endP p s.size := by rw [ByteArray.size_append, ← endP_size]
      have hps := pieceP_size ep (q + (i : Int)) p s.size
      have e := laid_l0 l ep q ok' d (i + 1) (s ++ pieceP ep (q + (i : Int)) p s.size) (at_ ++ [(s.size : Int)]) (by omega) (by rw [ByteArray.size_append]; omega) (by rw [List.length_append, hl]; rfl)
      rw [ez] at e
      rw [w64 (x := (i : Int) + 1) (by omega) (by omega)]
      have a1 : s ++ tailP ep (p :: l.drop (i + 1)) (q + (i : Int)) s.size = (s ++ pieceP ep (q + (i : Int)) p s.size) ++ tailP ep (l.drop (i + 1)) (q + ((i + 1 : Nat) : Int)) (endP p s.size) := by
        show s ++ (pieceP ep (q + (i : Int)) p s.size ++ tailP ep (l.drop (i + 1)) (q + (i : Int) + 1) (endP p s.size)) = _
        rw [← ByteArray.append_assoc, show q + (i : Int) + 1 = q + ((i + 1 : Nat) : Int) by omega]
      have a2 : at_ ++ placesP (p :: l.drop (i + 1)) s.size = (at_ ++ [(s.size : Int)]) ++ placesP (l.drop (i + 1)) (endP p s.size) := by
        show at_ ++ ((s.size : Int) :: placesP (l.drop (i + 1)) (endP p s.size)) = _
        simp
      rw [a1, a2]
      exact e
    rw [hw]
    refine Ev.bind (ref_Lay12_ev ep _ p.f0) ?_
    rw [hlay]
    refine Ev.pos (by omega) (Ev.call rfl (Ev.pos (by show s.size + (laidOf ep (q + (i : Int)) p.f0).size ≤ _; omega) ?_))
    have pz : padN p (s.size + (16 + p.f0.size)) = 0 → s ++ laidOf ep (q + (i : Int)) p.f0 = s ++ pieceP ep (q + (i : Int)) p s.size := fun z => by
      unfold pieceP
      rw [z, show fillN 0 = (⟨#[]⟩ : ByteArray) from rfl, show laidOf ep (q + (i : Int)) p.f0 ++ (⟨#[]⟩ : ByteArray) = laidOf ep (q + (i : Int)) p.f0 from ByteArray.append_empty]
    by_cases c1 : p.f1 = true
    rotate_left
    · exact Ev.neg c1 (key _ (pz (by unfold padN; rw [if_neg (fun z => c1 z.1)])))
    refine Ev.pos c1 ?_
    show Ev (fun k => if (((s ++ laidOf ep (q + (i : Int)) p.f0).size : Int) % 32) > 0 then _ else _) _
    by_cases c2 : (((s ++ laidOf ep (q + (i : Int)) p.f0).size : Int) % 32) > 0
    rotate_left
    · exact Ev.neg c2 (key _ (pz (by unfold padN; rw [if_neg (fun z => c2 (by omega))])))
    have hc : fillC (32 - (((s ++ laidOf ep (q + (i : Int)) p.f0).size : Int) % 32)) = padN p (s.size + (16 + p.f0.size)) := by
      unfold padN
      rw [if_pos ⟨c1, by omega⟩]
      unfold fillC
      omega
    refine Ev.pos c2 (Ev.bind (ref_Fill_ev _) ?_)
    show Ev (fun k => if (s ++ laidOf ep (q + (i : Int)) p.f0).size + (fillN (fillC (32 - (((s ++ laidOf ep (q + (i : Int)) p.f0).size : Int) % 32)))).size ≤ 9223372036854775807 then _ else _) _
    rw [hc]
    refine Ev.pos (by rw [fillN_size]; omega) (key _ ?_)
    unfold pieceP
    rw [ByteArray.append_assoc]
theorem laid_ev (l : List Pt) (ep q : Int) (ok : okP l ep q) : Ev (fun k => styluslaw13_laid.f k l ep q) (tailP ep l q 0, placesP l 0) := by
  have h := ok.2.1
  have e := laid_l0 l ep q ok l.length 0 ⟨#[]⟩ [] (by omega) (by show 0 + _ ≤ _; omega) rfl
  rw [List.drop_zero, show q + ((0 : Nat) : Int) = q by omega, show ((⟨#[]⟩ : ByteArray) ++ tailP ep l q (⟨#[]⟩ : ByteArray).size) = tailP ep l q 0 from ByteArray.empty_append, List.nil_append] at e
  exact e
end Go.Proofs.Ytinoidkmobmcpaa.P
