/- Each name that is given may be one, and is read as what it was given for; what is read as a name has just that name. -/
import Derived.Test.YtpmfmkpcgbiemaaPx4
import Derived.Test.YtpmfmkpcgbiemaaPx7
import Derived.Test.YtpmfmkpcgbiemaaTitleRf
namespace Go.Proofs.Ytpmfmkpcgbiemaa.Pure
open Go.RowKit Go.Proofs.Ytpmfmkpcgbiemaa.P Go.Proofs.YtpmfmkpcgbiemaaW.PrintWords Go.Proofs.YtpmfmkpcgbiemaaW.PrintLast

theorem may_all {s : ByteArray} (h0 : 1 ≤ s.size) (h1 : s.size ≤ 24) (h : ∀ i : Nat, i < s.size → mayB (bt s (i : Int)) = true) : mayOf s = true := by
  unfold mayOf
  rw [decide_eq_true (show 1 ≤ s.size ∧ s.size ≤ 24 from ⟨h0, h1⟩), Bool.true_and, allFrom_iff]
  intro j _ hj
  exact h j (by omega)
theorem digits_bt (n w : Int) (i : Nat) (hi : i < (digitsOf n w).size) : 48 ≤ bt (digitsOf n w) (i : Int) ∧ bt (digitsOf n w) (i : Int) ≤ 57 := by
  unfold digitsOf at hi ⊢
  split
  · rename_i c
    rw [if_pos c, strOfNums_size] at hi
    have hb : Bytes (digs w.toNat n) := fun x hx => by have := digs_bytes _ _ x hx; omega
    rw [bt_nums _ hb i hi]
    exact digs_bytes _ _ _ (List.getElem_mem hi)
  · rename_i c
    rw [if_neg c] at hi
    exact absurd hi (Nat.not_lt_zero i)
theorem mayB_digit {b : Int} (h : 48 ≤ b ∧ b ≤ 57) : mayB b = true := by
  unfold mayB plainB
  rw [decide_eq_true (show (97 ≤ b ∧ b ≤ 122) ∨ (48 ≤ b ∧ b ≤ 57) from .inr h)]
  rfl
theorem may_app {a b : ByteArray} (ha : ∀ i : Nat, i < a.size → mayB (bt a (i : Int)) = true) (hb : ∀ i : Nat, i < b.size → mayB (bt b (i : Int)) = true) :
    ∀ i : Nat, i < (a ++ b).size → mayB (bt (a ++ b) (i : Int)) = true := by
  intro i hi
  rw [ByteArray.size_append] at hi
  by_cases c : i < a.size
  · rw [cat_left _ _ _ c]; exact ha i c
  · have := cat_right a b (i - a.size)
    rw [show a.size + (i - a.size) = i by omega] at this
    rw [this]
    exact hb _ (by omega)
theorem may_ckp : ∀ i : Nat, i < ckp.size → mayB (bt ckp (i : Int)) = true := by
  intro i hi
  have : i < 6 := hi
  rcases (show i = 0 ∨ i = 1 ∨ i = 2 ∨ i = 3 ∨ i = 4 ∨ i = 5 by omega) with rfl | rfl | rfl | rfl | rfl | rfl <;> decide +kernel
theorem may_lgp : ∀ i : Nat, i < lgp.size → mayB (bt lgp (i : Int)) = true := by
  intro i hi
  have : i < 4 := hi
  rcases (show i = 0 ∨ i = 1 ∨ i = 2 ∨ i = 3 by omega) with rfl | rfl | rfl | rfl <;> decide +kernel
theorem may_dash : ∀ i : Nat, i < dash.size → mayB (bt dash (i : Int)) = true := by
  intro i hi
  have : i < 1 := hi
  obtain rfl : i = 0 := by omega
  decide +kernel
theorem may_xp : ∀ i : Nat, i < xp.size → mayB (bt xp (i : Int)) = true := by
  intro i hi
  have : i < 2 := hi
  rcases (show i = 0 ∨ i = 1 by omega) with rfl | rfl <;> decide +kernel
theorem may_user {s : ByteArray} (h : userOf s = true) : 1 ≤ s.size ∧ s.size ≤ 16 ∧ ∀ i : Nat, i < s.size → mayB (bt s (i : Int)) = true := by
  unfold userOf at h
  rw [Bool.and_eq_true, allFrom_iff] at h
  have := of_decide_eq_true h.1
  refine ⟨this.1, this.2, fun i hi => ?_⟩
  unfold mayB
  rw [h.2 i (by omega) (by omega)]
  rfl
theorem not_pre {p s : ByteArray} (hp : 0 < p.size) (h : bt s 0 ≠ bt p 0) : ¬ pre p s := fun z => h (pre_first z hp)
/-- A checkpoint's name. -/
theorem back_check (e : Int) (h : ¬ (ofCheck e).toList = ([] : List UInt8)) : mayOf (ofCheck e) = true ∧ tiRead (ofCheck e) = (1, e, 0, ⟨#[]⟩) := by
  unfold ofCheck at h ⊢
  by_cases c : (digitsOf e 6).size = 0
  · rw [if_pos c] at h; exact absurd (by decide +kernel) h
  rw [if_neg c] at h ⊢
  have hd : ¬ (digitsOf e 6).toList = [] := fun z => c ((toList_nil _).1 z)
  obtain ⟨hp, hz⟩ := parse_digits e 6 hd
  have y0 : ckp.size = 6 := rfl
  have z : (ckp ++ digitsOf e 6).size = 12 := by rw [ByteArray.size_append]; omega
  have j := pre_of_join ckp (digitsOf e 6)
  rw [y0, z] at j
  refine ⟨may_all (by omega) (by omega) (may_app may_ckp fun i hi => mayB_digit (digits_bt e 6 i hi)), ?_⟩
  unfold tiRead
  have hc : isCheck (ckp ++ digitsOf e 6) := ⟨j.1, z, by rw [j.2, hp]⟩
  rw [if_pos hc, j.2, hp]
theorem back_log (e p : Int) (h : ¬ (ofLog e p).toList = ([] : List UInt8)) : mayOf (ofLog e p) = true ∧ tiRead (ofLog e p) = (2, e, p, ⟨#[]⟩) := by
  unfold ofLog at h ⊢
  by_cases c : (digitsOf e 6).size = 0 ∨ (digitsOf p 4).size = 0
  · rw [if_pos c] at h; exact absurd (by decide +kernel) h
  rw [if_neg c] at h ⊢
  have hd1 : ¬ (digitsOf e 6).toList = [] := fun z => c (.inl ((toList_nil _).1 z))
  have hd2 : ¬ (digitsOf p 4).toList = [] := fun z => c (.inr ((toList_nil _).1 z))
  obtain ⟨p1, z1⟩ := parse_digits e 6 hd1
  obtain ⟨p2, z2⟩ := parse_digits p 4 hd2
  have y0 : lgp.size = 4 := rfl
  have yd : dash.size = 1 := rfl
  have w1 : (lgp ++ digitsOf e 6).size = 10 := by rw [ByteArray.size_append]; omega
  have w2 : ((lgp ++ digitsOf e 6) ++ dash).size = 11 := by rw [ByteArray.size_append]; omega
  have z : (((lgp ++ digitsOf e 6) ++ dash) ++ digitsOf p 4).size = 15 := by rw [ByteArray.size_append]; omega
  have b0 : bt (((lgp ++ digitsOf e 6) ++ dash) ++ digitsOf p 4) ((0 : Nat) : Int) = bt lgp ((0 : Nat) : Int) := by
    rw [cat_left _ _ _ (by omega), cat_left _ _ _ (by omega), cat_left _ _ _ (by omega)]
  have e1 : (((lgp ++ digitsOf e 6) ++ dash) ++ digitsOf p 4).extract 4 10 = digitsOf e 6 := by
    have := piece_of (((lgp ++ digitsOf e 6) ++ dash) ++ digitsOf p 4) (digitsOf e 6) 4 (by omega) (fun i hi => by
      rw [cat_left _ _ _ (by omega), cat_left _ _ _ (by omega)]
      exact cat_right lgp _ i)
    rwa [show 4 + (digitsOf e 6).size = 10 by omega] at this
  have e2 : (((lgp ++ digitsOf e 6) ++ dash) ++ digitsOf p 4).extract 11 15 = digitsOf p 4 := by
    have := piece_of (((lgp ++ digitsOf e 6) ++ dash) ++ digitsOf p 4) (digitsOf p 4) 11 (by omega) (fun i hi => by
      have := cat_right ((lgp ++ digitsOf e 6) ++ dash) (digitsOf p 4) i
      rwa [w2] at this)
    rwa [show 11 + (digitsOf p 4).size = 15 by omega] at this
  have b10 : bt (((lgp ++ digitsOf e 6) ++ dash) ++ digitsOf p 4) ((10 : Nat) : Int) = 45 := by
    rw [cat_left _ _ _ (by omega)]
    have := cat_right (lgp ++ digitsOf e 6) dash 0
    rw [w1] at this
    exact this.trans (by decide +kernel)
  have hp : pre lgp (((lgp ++ digitsOf e 6) ++ dash) ++ digitsOf p 4) := by
    rw [ByteArray.append_assoc, ByteArray.append_assoc]
    exact (pre_of_join lgp _).1
  refine ⟨may_all (by omega) (by omega) (may_app (may_app (may_app may_lgp fun i hi => mayB_digit (digits_bt e 6 i hi)) may_dash) fun i hi => mayB_digit (digits_bt p 4 i hi)), ?_⟩
  have hn : ¬ isCheck (((lgp ++ digitsOf e 6) ++ dash) ++ digitsOf p 4) := fun q => not_pre (p := ckp) (by decide) (by rw [show (0 : Int) = ((0 : Nat) : Int) from rfl, b0]; decide +kernel) q.1
  have hl : isLog (((lgp ++ digitsOf e 6) ++ dash) ++ digitsOf p 4) := ⟨hp, z, b10, by rw [e1, p1], by rw [e2, p2]⟩
  unfold tiRead
  rw [if_neg hn, if_pos hl, e1, e2, p1, p2]
theorem back_export (s : ByteArray) (h : ¬ (ofExport s).toList = ([] : List UInt8)) : mayOf (ofExport s) = true ∧ tiRead (ofExport s) = (4, 0, 0, s) ∧ (ofExport s).size ≤ 24 := by
  unfold ofExport at h ⊢
  by_cases c : userOf s = true
  rotate_left
  · rw [if_neg c] at h; exact absurd (by decide +kernel) h
  rw [if_pos c] at h ⊢
  obtain ⟨u0, u1, u2⟩ := may_user c
  have y0 : xp.size = 2 := rfl
  have z : (xp ++ s).size = 2 + s.size := by rw [ByteArray.size_append]; omega
  have j := pre_of_join xp s
  rw [y0] at j
  have b0 : bt (xp ++ s) ((0 : Nat) : Int) = bt xp ((0 : Nat) : Int) := cat_left _ _ _ (by omega)
  have nf : ∀ p : ByteArray, 0 < p.size → bt xp 0 ≠ bt p 0 → ¬ pre p (xp ++ s) := fun p hp hne => not_pre hp (by rw [show (0 : Int) = ((0 : Nat) : Int) from rfl, b0]; exact hne)
  refine ⟨may_all (by omega) (by omega) (may_app may_xp u2), ?_, by omega⟩
  unfold tiRead
  have n1 : ¬ isCheck (xp ++ s) := fun q => nf ckp (by decide) (by decide +kernel) q.1
  have n2 : ¬ isLog (xp ++ s) := fun q => nf lgp (by decide) (by decide +kernel) q.1
  have n3 : ¬ (pre tmpp (xp ++ s) ∧ mayOf (xp ++ s) = true) := fun q => nf tmpp (by decide) (by decide +kernel) q.1
  rw [if_neg n1, if_neg n2, if_neg n3, if_pos (show pre xp (xp ++ s) ∧ userOf ((xp ++ s).extract 2 (xp ++ s).size) = true from ⟨j.1, by rw [j.2]; exact c⟩), j.2]
/-- What is read as a name has just that name. -/
theorem read_back (s : ByteArray) : ((tiRead s).1 = 1 → ofCheck (tiRead s).2.1 = s) ∧ ((tiRead s).1 = 2 → ofLog (tiRead s).2.1 (tiRead s).2.2.1 = s) ∧ ((tiRead s).1 = 4 → ofExport (tiRead s).2.2.2 = s) ∧
    ((tiRead s).1 ≠ 1 → (tiRead s).1 ≠ 2 → (tiRead s).1 ≠ 4 → (tiRead s).2.1 = 0 ∧ (tiRead s).2.2.1 = 0 ∧ (tiRead s).2.2.2 = ⟨#[]⟩) := by
  unfold tiRead
  by_cases c0 : isCheck s
  · rw [if_pos c0]
    refine ⟨fun _ => ?_, fun z => absurd (show (1 : Int) = 2 from z) (by decide), fun z => absurd (show (1 : Int) = 4 from z) (by decide), fun z => absurd rfl z⟩
    show ofCheck (parseOf (s.extract 6 12)).1 = s
    rw [ofCheck_parsed c0.2.1 c0.2.2]
    have := pre_join (p := ckp) (s := s) c0.1.1
    rw [show s.extract ckp.size s.size = s.extract 6 12 by rw [c0.2.1]; rfl] at this
    exact this.2 c0.1
  rw [if_neg c0]
  by_cases c1 : isLog s
  · rw [if_pos c1]
    refine ⟨fun z => absurd (show (2 : Int) = 1 from z) (by decide), fun _ => ?_, fun z => absurd (show (2 : Int) = 4 from z) (by decide), fun _ z => absurd rfl z⟩
    show ofLog (parseOf (s.extract 4 10)).1 (parseOf (s.extract 11 15)).1 = s
    rw [ofLog_parsed c1.2.1 c1.2.2.2.1 c1.2.2.2.2]
    exact (log_joined c1.2.1).2 ⟨c1.1, c1.2.2.1⟩
  rw [if_neg c1]
  by_cases c2 : pre tmpp s ∧ mayOf s = true
  · rw [if_pos c2]
    exact ⟨fun z => absurd z (by decide), fun z => absurd z (by decide), fun z => absurd z (by decide), fun _ _ _ => ⟨rfl, rfl, rfl⟩⟩
  rw [if_neg c2]
  by_cases c3 : pre xp s ∧ userOf (s.extract 2 s.size) = true
  · rw [if_pos c3]
    refine ⟨fun z => absurd (show (4 : Int) = 1 from z) (by decide), fun z => absurd (show (4 : Int) = 2 from z) (by decide), fun _ => ?_, fun _ _ z => absurd rfl z⟩
    show ofExport (s.extract 2 s.size) = s
    unfold ofExport
    rw [if_pos c3.2]
    exact (pre_join (p := xp) c3.1.1).2 c3.1
  · rw [if_neg c3]
    exact ⟨fun z => absurd z (by decide), fun z => absurd z (by decide), fun z => absurd z (by decide), fun _ _ _ => ⟨rfl, rfl, rfl⟩⟩
theorem TitleBack : styluslaw08_TitleBack.Pure := by
  intro e p s he hp hs
  apply Ev.rounds
  have he' := wf_i64 he
  have hp' := wf_i64 hp
  have l : Ev (fun k => (styluslaw08_lives.f k).bind fun t => some t) true := Ev.bind lives08 (Ev.now _)
  have j2 : Ev (fun k => styluslaw08_TitleBack.j2 k s false) true := by
    refine Ev.step (fun k => by rw [styluslaw08_TitleBack.j2, if_neg Bool.false_ne_true]) ?_
    refine Ev.bind (title_Read_ev s hs) ?_
    obtain ⟨r1, r2, r3, r4⟩ := read_back s
    have rg : -9223372036854775808 ≤ (tiRead s).2.1 ∧ (tiRead s).2.1 ≤ 9223372036854775807 ∧ -9223372036854775808 ≤ (tiRead s).2.2.1 ∧ (tiRead s).2.2.1 ≤ 9223372036854775807 := by
      have a1 := parse_range (s.extract 6 12)
      have a2 := parse_range (s.extract 4 10)
      have a3 := parse_range (s.extract 11 15)
      unfold tiRead
      split
      · exact ⟨by show _ ≤ (parseOf _).1; omega, by show (parseOf _).1 ≤ _; omega, by show (_ : Int) ≤ 0; decide, by show (0 : Int) ≤ _; decide⟩
      · split
        · exact ⟨by show _ ≤ (parseOf _).1; omega, by show (parseOf _).1 ≤ _; omega, by show _ ≤ (parseOf _).1; omega, by show (parseOf _).1 ≤ _; omega⟩
        · split
          · exact ⟨by decide, by decide, by decide, by decide⟩
          · split
            · exact ⟨by show (_ : Int) ≤ 0; decide, by show (0 : Int) ≤ _; decide, by show (_ : Int) ≤ 0; decide, by show (0 : Int) ≤ _; decide⟩
            · exact ⟨by decide, by decide, by decide, by decide⟩
    have rz : (tiRead s).2.2.2.size ≤ 140737488351232 := by
      unfold tiRead
      split
      · exact Nat.zero_le _
      · split
        · exact Nat.zero_le _
        · split
          · exact Nat.zero_le _
          · split
            · show (s.extract 2 s.size).size ≤ _
              rw [ByteArray.size_extract]; omega
            · exact Nat.zero_le _
    by_cases k1 : (tiRead s).1 = 1
    · exact Ev.pos k1 (Ev.bind (title_OfCheck_ev _ ⟨rg.1, rg.2.1⟩) (Ev.pos (by rw [r1 k1]) l))
    refine Ev.neg k1 ?_
    by_cases k2 : (tiRead s).1 = 2
    · exact Ev.pos k2 (Ev.bind (title_OfLog_ev _ _ ⟨rg.1, rg.2.1⟩ ⟨rg.2.2.1, rg.2.2.2⟩) (Ev.pos (by rw [r2 k2]) l))
    refine Ev.neg k2 ?_
    by_cases k4 : (tiRead s).1 = 4
    · exact Ev.pos k4 (Ev.bind (title_OfExport_ev _ rz) (Ev.pos (by rw [r3 k4]) l))
    obtain ⟨q1, q2, q3⟩ := r4 k1 k2 k4
    exact Ev.neg k4 (Ev.pos q1 (Ev.pos q2 (Ev.pos (by rw [q3]; decide +kernel) l)))
  have ez : (ofExport s).size ≤ 140737488351232 := by
    unfold ofExport
    split
    · rename_i c
      have := may_user c
      rw [ByteArray.size_append]
      have : xp.size = 2 := rfl
      omega
    · exact Nat.zero_le _
  have j1 : Ev (fun k => styluslaw08_TitleBack.j1 k s (ofExport s) false) true := by
    refine Ev.step (fun k => by rw [styluslaw08_TitleBack.j1, if_neg Bool.false_ne_true]) ?_
    by_cases h : (ofExport s).toList = ([] : List UInt8)
    · exact Ev.pos h j2
    · obtain ⟨b1, b2, _⟩ := back_export s h
      refine Ev.neg h (Ev.bind (title_May_ev _ ez) (Ev.pos b1 (Ev.bind (title_Read_ev _ ez) ?_)))
      rw [b2]
      simpa using j2
  have lz : (ofLog e p).size ≤ 140737488351232 := by
    unfold ofLog
    split
    · exact Nat.zero_le _
    · have a1 := digits_small e 6
      have a2 := digits_small p 4
      rw [ByteArray.size_append, ByteArray.size_append, ByteArray.size_append]
      have : lgp.size = 4 := rfl
      have : dash.size = 1 := rfl
      omega
  have j0 : Ev (fun k => styluslaw08_TitleBack.j0 k e p s (ofLog e p) (ofExport s) false) true := by
    refine Ev.step (fun k => by rw [styluslaw08_TitleBack.j0, if_neg Bool.false_ne_true]) ?_
    by_cases h : (ofLog e p).toList = ([] : List UInt8)
    · exact Ev.pos h j1
    · obtain ⟨b1, b2⟩ := back_log e p h
      refine Ev.neg h (Ev.bind (title_May_ev _ lz) (Ev.pos b1 (Ev.bind (title_Read_ev _ lz) ?_)))
      rw [b2]
      simpa using j1
  have cz : (ofCheck e).size ≤ 140737488351232 := by
    unfold ofCheck
    split
    · exact Nat.zero_le _
    · have a1 := digits_small e 6
      rw [ByteArray.size_append]
      have : ckp.size = 6 := rfl
      omega
  unfold styluslaw08_TitleBack.f
  by_cases h0 : (s.size : Int) > 400
  · exact Ev.pos h0 l
  refine Ev.neg h0 ?_
  refine Ev.bind (title_OfCheck_ev e he') (Ev.bind (title_OfLog_ev e p he' hp') (Ev.bind (title_OfExport_ev s hs) ?_))
  by_cases h : (ofCheck e).toList = ([] : List UInt8)
  · exact Ev.pos h j0
  · obtain ⟨b1, b2⟩ := back_check e h
    refine Ev.neg h (Ev.bind (title_May_ev _ cz) (Ev.pos b1 (Ev.bind (title_Read_ev _ cz) ?_)))
    rw [b2]
    simpa using j0

end Go.Proofs.Ytpmfmkpcgbiemaa.Pure
