/- What an edit made is taken back by its inverse, and marks at edges stay at edges, in their order. -/
import Derived.Test.YtmcmadiiddeknaaPx0
import Derived.Test.YtmcmadiiddeknaaPx4
import Derived.Test.YtmcmadiiddeknaaPx8
import Derived.Test.YtmcmadiiddeknaaEditEv
namespace Go.Proofs.Ytmcmadiiddeknaa.Pure
open Go.RowKit Go.Proofs.Ytmcmadiiddeknaa.P Go.Proofs.YtmcmadiiddeknaaW.PrintWords Go.Proofs.YtmcmadiiddeknaaW.PrintLast

/-- An edit of a text of runes that may be: all that follows of what it makes. -/
structure Made (t : ByteArray) (p : Nat) (o n s : ByteArray) : Prop where
  fits : p + o.size ≤ t.size
  size : s.size = t.size - o.size + n.size
  head : ∀ i : Nat, i < p → bt s (i : Int) = bt t (i : Int)
  body : ∀ i : Nat, i < n.size → bt s ((p + i : Nat) : Int) = bt n (i : Int)
  tail : ∀ i : Nat, bt s ((p + n.size + i : Nat) : Int) = bt t ((p + o.size + i : Nat) : Int)
theorem made_cut (t : ByteArray) (p : Nat) (o n : ByteArray) (h : p + o.size ≤ t.size) : Made t p o n (cutIn t (p : Int) o n) := by
  have e : cutIn t (p : Int) o n = (t.extract 0 p ++ n) ++ t.extract (p + o.size) t.size := by
    unfold cutIn
    rw [show ((p : Int)).toNat = p from rfl, show ((p : Int) + (o.size : Int)).toNat = p + o.size by omega]
  have z0 : (t.extract 0 p).size = p := by rw [ByteArray.size_extract]; omega
  have z1 : (t.extract (p + o.size) t.size).size = t.size - (p + o.size) := by rw [ByteArray.size_extract]; omega
  have z2 : (t.extract 0 p ++ n).size = p + n.size := by rw [ByteArray.size_append, z0]
  rw [e]
  refine ⟨h, ?_, ?_, ?_, ?_⟩
  · rw [ByteArray.size_append, z2, z1]; omega
  · intro i hi
    rw [bt_left _ _ _ (by omega), bt_left _ _ _ (by omega), bt_extract _ _ _ _ (by omega) (by omega), Nat.zero_add]
  · intro i hi
    rw [bt_left _ _ _ (by omega)]
    have := bt_right (t.extract 0 p) n i
    rwa [z0] at this
  · intro i
    have := bt_right (t.extract 0 p ++ n) (t.extract (p + o.size) t.size) i
    rw [z2] at this
    rw [this]
    by_cases hi : i < t.size - (p + o.size)
    · rw [bt_extract _ _ _ _ (by omega) (by omega)]
    · unfold bt
      rw [dif_neg (by omega), dif_neg (by omega)]
theorem cut_back (t : ByteArray) (p : Nat) (o n : ByteArray) (h : p + o.size ≤ t.size) (ho : t.extract p (p + o.size) = o) :
    cutIn (cutIn t (p : Int) o n) (p : Int) n o = t ∧ (cutIn t (p : Int) o n).extract p (p + n.size) = n := by
  have e : cutIn t (p : Int) o n = (t.extract 0 p ++ n) ++ t.extract (p + o.size) t.size := by
    unfold cutIn
    rw [show ((p : Int)).toNat = p from rfl, show ((p : Int) + (o.size : Int)).toNat = p + o.size by omega]
  have z0 : (t.extract 0 p).size = p := by rw [ByteArray.size_extract]; omega
  have z2 : (t.extract 0 p ++ n).size = p + n.size := by rw [ByteArray.size_append, z0]
  have z1 : (t.extract (p + o.size) t.size).size = t.size - (p + o.size) := by rw [ByteArray.size_extract]; omega
  have x0 : ((t.extract 0 p ++ n) ++ t.extract (p + o.size) t.size).extract 0 p = t.extract 0 p := by
    rw [ByteArray.append_assoc]
    exact ByteArray.extract_append_eq_left z0.symm
  have x1 : ((t.extract 0 p ++ n) ++ t.extract (p + o.size) t.size).extract p (p + n.size) = n := by
    rw [ByteArray.append_assoc, ByteArray.extract_append, z0, Nat.sub_self, Nat.add_sub_cancel_left, show (t.extract 0 p).extract p (p + n.size) = ByteArray.empty from by
      apply ByteArray.size_eq_zero_iff.1; rw [ByteArray.size_extract]; omega, ByteArray.empty_append]
    exact ByteArray.extract_append_eq_left rfl
  have x2 : ((t.extract 0 p ++ n) ++ t.extract (p + o.size) t.size).extract (p + n.size) ((t.extract 0 p ++ n) ++ t.extract (p + o.size) t.size).size = t.extract (p + o.size) t.size := by
    exact ByteArray.extract_append_eq_right z2.symm (by rw [ByteArray.size_append])
  refine ⟨?_, by rw [e]; exact x1⟩
  rw [e]
  unfold cutIn
  rw [show ((p : Int)).toNat = p from rfl, show ((p : Int) + (n.size : Int)).toNat = p + n.size by omega, x0, x2]
  conv => lhs; rw [show o = t.extract p (p + o.size) from ho.symm]
  rw [ByteArray.size_extract]
  rw [show min (p + o.size) t.size - p = o.size by omega]
  rw [ByteArray.extract_append_extract, show min 0 p = 0 by omega, show max p (p + o.size) = p + o.size by omega, ByteArray.extract_append_extract,
    show min 0 (p + o.size) = 0 by omega, show max (p + o.size) t.size = t.size by omega]
  exact ByteArray.extract_zero_size
theorem made_edge {t o n s : ByteArray} {p : Nat} (m : Made t p o n s) (hv : valid t = true) (vn : valid n = true) (_e0 : edge t (p : Int) = true) (e1 : edge t ((p : Int) + o.size) = true) :
    edge s (p : Int) = true ∧ edge s ((p : Int) + n.size) = true := by
  have hz := m.size
  have hf := m.fits
  have g1 := edge_open hv _ e1
  have hb : ¬ mid (bt s ((p + n.size + 0 : Nat) : Int)) := by
    rw [m.tail 0]
    rcases g1.2.2 with z | z
    · exact bt_over t _ (by omega)
    · rwa [show ((p + o.size + 0 : Nat) : Int) = (p : Int) + o.size by omega]
  have hb' : ¬ mid (bt s ((p : Int) + n.size)) := by rwa [show ((p + n.size + 0 : Nat) : Int) = (p : Int) + n.size by omega] at hb
  refine ⟨edge_shut (by omega) (by omega) (.inr ?_), edge_shut (by omega) (by omega) (.inr hb')⟩
  by_cases hn : 0 < n.size
  · have := m.body 0 hn
    rw [Nat.add_zero] at this
    rw [this]
    exact valid_first vn hn
  · rwa [show (p : Int) + n.size = p by omega] at hb'
theorem made_valid {t o n s : ByteArray} {p : Nat} (m : Made t p o n s) (hv : valid t = true) (vn : valid n = true) (e0 : edge t (p : Int) = true) (e1 : edge t ((p : Int) + o.size) = true) : valid s = true := by
  have hz := m.size
  have hf := m.fits
  have c0 : ¬ mid (bt t (p : Int)) := by
    rcases (edge_open hv _ e0).2.2 with z | z
    · exact bt_over t _ (by omega)
    · exact z
  have c1 : ¬ mid (bt t ((p + o.size : Nat) : Int)) := by
    rw [show ((p + o.size : Nat) : Int) = (p : Int) + o.size by omega]
    rcases (edge_open hv _ e1).2.2 with z | z
    · exact bt_over t _ (by omega)
    · exact z
  obtain ⟨⟨d0, w0⟩, _⟩ := valid_cut hv p (by omega) c0
  obtain ⟨_, ⟨d2, w2⟩⟩ := valid_cut hv (p + o.size) (by omega) c1
  obtain ⟨d1, w1⟩ := valid_walks vn
  have x0 := walks_move t s d0 0 p 0 p w0 (by omega) (by omega) (by omega) (fun i hi => by
    rw [Nat.zero_add]; exact m.head i (by omega))
  have x1 := walks_move n s d1 0 n.size p (p + n.size) w1 (by omega) (by omega) (by omega) (fun i hi => by
    rw [Nat.zero_add]; exact m.body i (by omega))
  have x2 := walks_move t s d2 (p + o.size) t.size (p + n.size) s.size w2 (by omega) (by omega) (by omega) (fun i _ => m.tail i)
  obtain ⟨f, hf⟩ := walks_trans s _ _ _ _ _ x0 x1
  obtain ⟨g, hg⟩ := walks_trans s _ _ _ _ _ hf x2
  exact walks_valid hg
theorem made_shift {t o n s : ByteArray} {p : Nat} (m : Made t p o n s) (hv : valid t = true) (vn : valid n = true) (e0 : edge t (p : Int) = true) (e1 : edge t ((p : Int) + o.size) = true)
    (a : Int) (ha : edge t a = true) : edge s (shiftOf p o n a) = true := by
  have hz := m.size
  have hf := m.fits
  have hp := (made_edge m hv vn e0 e1).1
  obtain ⟨a0, a1, a2⟩ := edge_open hv a ha
  unfold shiftOf
  by_cases h0 : a ≤ p
  · rw [if_pos h0]
    by_cases h1 : a = p
    · rw [h1]; exact hp
    · refine edge_shut a0 (by omega) (.inr ?_)
      rcases a2 with z | z
      · omega
      · have := m.head a.toNat (by omega)
        rw [show ((a.toNat : Nat) : Int) = a by omega] at this
        rwa [this]
  · rw [if_neg h0]
    by_cases h1 : a - p < o.size
    · rw [if_pos h1]; exact hp
    · rw [if_neg h1]
      refine edge_shut (by omega) (by omega) ?_
      rcases a2 with z | z
      · exact .inl (by omega)
      · refine .inr ?_
        have := m.tail (a - p - o.size).toNat
        rw [show ((p + n.size + (a - p - o.size).toNat : Nat) : Int) = a - o.size + n.size by omega, show ((p + o.size + (a - p - o.size).toNat : Nat) : Int) = a by omega] at this
        rwa [this]
/-- What an applied edit gives. -/
theorem applied {t o n : ByteArray} {p : Int} (h : (applyOf t p o n).2 = 0) : 0 ≤ p ∧ p + o.size ≤ t.size ∧ t.extract p.toNat (p + o.size).toNat = o ∧ edge t p = true ∧ edge t (p + o.size) = true ∧
    valid o = true ∧ valid n = true ∧ (applyOf t p o n) = (cutIn t p o n, 0) := by
  unfold applyOf at h ⊢
  by_cases h0 : p < 0 ∨ p > t.size
  · rw [if_pos h0] at h; exact absurd h (by decide)
  rw [if_neg h0] at h ⊢
  by_cases h1 : p + o.size ≤ t.size ∧ t.extract p.toNat (p + o.size).toNat = o
  rotate_left
  · rw [if_pos h1] at h; exact absurd h (by decide)
  rw [if_neg (not_not_intro h1)] at h ⊢
  by_cases h2 : edge t p = true ∧ edge t (p + o.size) = true
  rotate_left
  · rw [if_pos h2] at h; exact absurd h (by decide)
  rw [if_neg (not_not_intro h2)] at h ⊢
  by_cases h3 : valid o = true ∧ valid n = true
  rotate_left
  · rw [if_pos h3] at h; exact absurd h (by decide)
  rw [if_neg (not_not_intro h3)] at h ⊢
  by_cases h4 : (t.size : Int) - o.size + n.size > 4096
  · rw [if_pos h4] at h; exact absurd h (by decide)
  rw [if_neg h4]
  exact ⟨by omega, h1.1, h1.2, h2.1, h2.2, h3.1, h3.2, rfl⟩
theorem unapplied {t o n : ByteArray} {p : Int} (h : ¬ (applyOf t p o n).2 = 0) : (applyOf t p o n).1.toList = ([] : List UInt8) := by
  unfold applyOf at h ⊢
  by_cases h0 : p < 0 ∨ p > t.size
  · rw [if_pos h0]; decide +kernel
  rw [if_neg h0] at h ⊢
  by_cases h1 : p + o.size ≤ t.size ∧ t.extract p.toNat (p + o.size).toNat = o
  rotate_left
  · rw [if_pos h1]; decide +kernel
  rw [if_neg (not_not_intro h1)] at h ⊢
  by_cases h2 : edge t p = true ∧ edge t (p + o.size) = true
  rotate_left
  · rw [if_pos h2]; decide +kernel
  rw [if_neg (not_not_intro h2)] at h ⊢
  by_cases h3 : valid o = true ∧ valid n = true
  rotate_left
  · rw [if_pos h3]; decide +kernel
  rw [if_neg (not_not_intro h3)] at h ⊢
  by_cases h4 : (t.size : Int) - o.size + n.size > 4096
  · rw [if_pos h4]; decide +kernel
  rw [if_neg h4] at h
  exact absurd rfl h
/-- An applied edit of a text of no more than 4096 bytes is taken back. -/
theorem taken_back {t o n : ByteArray} {p : Int} (hv : valid t = true) (hz : t.size ≤ 4096) (h : (applyOf t p o n).2 = 0) :
    applyOf (cutIn t p o n) p n o = (t, 0) ∧ valid (cutIn t p o n) = true ∧ ∀ a : Int, edge t a = true → edge (cutIn t p o n) (shiftOf p o n a) = true := by
  obtain ⟨h0, h1, h2, h3, h4, h5, h6, _⟩ := applied h
  obtain ⟨q, rfl⟩ : ∃ q : Nat, p = q := ⟨p.toNat, by omega⟩
  have hq : q + o.size ≤ t.size := by omega
  rw [show ((q : Int)).toNat = q from rfl, show ((q : Int) + (o.size : Int)).toNat = q + o.size by omega] at h2
  have m := made_cut t q o n hq
  have b := cut_back t q o n hq h2
  have e := made_edge m hv h6 h3 h4
  refine ⟨?_, made_valid m hv h6 h3 h4, fun a ha => made_shift m hv h6 h3 h4 a ha⟩
  have sz := m.size
  unfold applyOf
  have c0 : ¬ ((q : Int) < 0 ∨ (q : Int) > (cutIn t q o n).size) := by omega
  have c1 : (q : Int) + n.size ≤ (cutIn t q o n).size ∧ (cutIn t q o n).extract ((q : Int)).toNat ((q : Int) + n.size).toNat = n := by
    refine ⟨by omega, ?_⟩
    rw [show ((q : Int)).toNat = q from rfl, show ((q : Int) + (n.size : Int)).toNat = q + n.size by omega]
    exact b.2
  have c4 : ¬ ((cutIn t q o n).size : Int) - n.size + o.size > 4096 := by omega
  rw [if_neg c0, if_neg (not_not_intro c1), if_neg (not_not_intro e), if_neg (not_not_intro ⟨h6, h5⟩), if_neg c4, b.1]
theorem EditBack : styluslaw21_EditBack.Pure := by
  intro t x y ht hB hB2
  apply Ev.rounds
  obtain ⟨p, o, n⟩ := x
  obtain ⟨a, b⟩ := y
  have l : Ev (fun k => (styluslaw21_lives.f k).bind fun t => some t) true := Ev.bind lives21 (Ev.now _)
  have no : Ev (fun k => styluslaw21_EditBack.j0 k t a b true p o n) true := Ev.step (fun k => by rw [styluslaw21_EditBack.j0, if_pos (rfl : true = true)]) l
  unfold styluslaw21_EditBack.f
  by_cases h3 : (t.size : Int) > 600
  · exact Ev.pos h3 no
  refine Ev.neg h3 ?_
  by_cases h4 : (o.size : Int) > 600
  · exact Ev.pos h4 no
  refine Ev.neg h4 ?_
  by_cases h5 : (n.size : Int) > 600
  · exact Ev.pos h5 no
  refine Ev.neg h5 (Ev.bind (ref_Valid_ev t (by omega)) ?_)
  by_cases hv : valid t = true
  rotate_left
  · rw [Bool.eq_false_iff.2 hv]; exact no
  rw [hv]
  refine Ev.step (fun k => by show styluslaw21_EditBack.j0 (k + 1) _ _ _ false _ _ _ = _; rw [styluslaw21_EditBack.j0, if_neg Bool.false_ne_true]) ?_
  refine Ev.bind (edit_Apply_ev t p o n (by omega) (by omega) (by omega)) ?_
  by_cases hz : (applyOf t p o n).2 = 0
  rotate_left
  · exact Ev.neg hz (Ev.pos (unapplied hz) l)
  refine Ev.pos hz (Ev.call rfl ?_)
  obtain ⟨k1, k2, k3⟩ := taken_back hv (by omega) hz
  obtain ⟨h0, h1, _, _, _, _, _, he⟩ := applied hz
  rw [he]
  have sz : (cutIn t p o n).size ≤ 2000 := by
    unfold cutIn
    rw [ByteArray.size_append, ByteArray.size_append, ByteArray.size_extract, ByteArray.size_extract]; omega
  refine Ev.bind (edit_Apply_ev (cutIn t p o n) p n o (by omega) (by omega) (by omega)) ?_
  rw [k1]
  refine Ev.pos rfl (Ev.pos rfl (Ev.bind (ref_Valid_ev (cutIn t p o n) (by omega)) ?_))
  rw [k2]
  refine Ev.step (fun k => by show styluslaw21_EditBack.j1 (k + 1) _ _ _ _ false _ _ _ = _; rw [styluslaw21_EditBack.j1, if_neg Bool.false_ne_true]) ?_
  have no2 : Ev (fun k => styluslaw21_EditBack.j2 k a b (cutIn t p o n) true p o n) true := Ev.step (fun k => by rw [styluslaw21_EditBack.j2, if_pos (rfl : true = true)]) l
  refine Ev.call (ref_Edge_is t a) ?_
  by_cases ea : edge t a = true
  rotate_left
  · exact Ev.neg ea no2
  refine Ev.pos ea (Ev.call (ref_Edge_is t b) ?_)
  by_cases eb : edge t b = true
  rotate_left
  · exact Ev.neg eb no2
  refine Ev.pos eb ?_
  by_cases hab : b < a
  · rw [decide_eq_true (show (⟨a, b⟩ : S27).f1 < (⟨a, b⟩ : S27).f0 from hab)]; exact no2
  rw [decide_eq_false (show ¬ (⟨a, b⟩ : S27).f1 < (⟨a, b⟩ : S27).f0 from hab)]
  refine Ev.step (fun k => by rw [styluslaw21_EditBack.j2, if_neg Bool.false_ne_true]) ?_
  have ga := edge_open hv a ea
  have gb := edge_open hv b eb
  refine Ev.call (edit_Shift_is p o n a (by omega) (by omega) (by omega) (by omega) (by omega) (by omega)) ?_
  refine Ev.call (edit_Shift_is p o n b (by omega) (by omega) (by omega) (by omega) (by omega) (by omega)) ?_
  refine Ev.call (ref_Edge_is _ _) (Ev.pos (k3 a ea) (Ev.call (ref_Edge_is _ _) (Ev.pos (k3 b eb) (Ev.pos ?_ l))))
  unfold shiftOf
  by_cases c0 : a ≤ p
  · rw [if_pos c0]
    by_cases c1 : b ≤ p
    · rw [if_pos c1]; omega
    · rw [if_neg c1]
      by_cases c2 : b - p < o.size
      · rw [if_pos c2]; omega
      · rw [if_neg c2]; omega
  · rw [if_neg c0, if_neg (show ¬ b ≤ p by omega)]
    by_cases c2 : a - p < o.size
    · rw [if_pos c2]
      by_cases c3 : b - p < o.size
      · rw [if_pos c3]; omega
      · rw [if_neg c3]; omega
    · rw [if_neg c2, if_neg (show ¬ b - p < o.size by omega)]; omega

end Go.Proofs.Ytmcmadiiddeknaa.Pure
