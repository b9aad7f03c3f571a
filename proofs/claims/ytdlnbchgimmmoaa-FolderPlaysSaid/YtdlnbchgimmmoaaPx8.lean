-- Laid by a program of this session (wip/tools/fork_print.py over the kit's print) out of Lean's print of the translation. Lean checks it.
import Derived.Test.YtdlnbchgimmmoaaPx0
import Derived.Test.YtdlnbchgimmmoaaPx1
import Derived.Test.YtdlnbchgimmmoaaPx2
import Derived.Test.YtdlnbchgimmmoaaPx3
import Derived.Test.YtdlnbchgimmmoaaPx4
import Derived.Test.YtdlnbchgimmmoaaPx5
import Derived.Test.YtdlnbchgimmmoaaPx6
import Derived.Test.YtdlnbchgimmmoaaPx7
namespace Go.Proofs.Ytdlnbchgimmmoaa.P
open Go.RowKit Go.Proofs.YtdlnbchgimmmoaaW.PrintWords Go.Proofs.YtdlnbchgimmmoaaW.PrintLast Go.Proofs.YtdlnbchgimmmoaaW.PrintMore
attribute [local go_sem] max2_int min2_int max_two min_two max_three min_three max_four min_four   -- for this text's walks alone
set_option linter.unusedVariables false
set_option linter.unusedSimpArgs false

/-! ### styluslaw09_FolderPlays: function 4 -/
-- NEEDS stylus/styluslaw09.step stylus/styluslaw09.stands (*stylus/folder.Folder).Copy stylus/styluslaw09.lives stylus/stylusref09.New stylus/stylusref09.Find
def overS : ByteArray := ⟨#[111, 118, 101, 114]⟩
/-- All calls of a script. -/
def playsGo (k : Nat) : List S40 → FoS → RL → Option (FoS × RL)
  | [], st, q => some (st, q)
  | o :: r, st, q => if fitOp o.f0 o.f1 o.f2 o.f3 ∧ st.few then
      (if o.f0 = 5 then (if (st.put overS 9).few then playsGo k r st q else none)
       else (stepOf k st q o.f0 o.f1 o.f2 o.f3).bind fun p => if p.1.few then (standsOf k p.1 p.2).bind fun _ => playsGo k r p.1 p.2 else none) else none
def styluslaw09_FolderPlays.f (k : Nat) (l : List S40) (s : ByteArray) : Option Bool :=
  if 30 < l.length then styluslaw09_lives.f else
    (playsGo k l ⟨[], [], []⟩ [[]]).bind fun r => (stylusref09_Now.f r.2).bind fun n1 => (stylusref09_Find.f k n1 s).bind fun p =>
      if s.size ≤ maxLen ∧ p.1 = nmGet r.1.n s.data.toList ∧ p.2 = nmHas r.1.n s.data.toList then styluslaw09_lives.f else none
theorem stepOf_mono (k : Nat) (st : FoS) (q : RL) (kd n : Int) (s t : ByteArray) : LeO (stepOf k st q kd n s t) (stepOf (k + 1) st q kd n s t) := by
  unfold stepOf
  exact LeO.ite (LeO.bind (stylusref09_Put.mono _ _ _ k) fun _ => LeO.refl _) (LeO.ite (LeO.bind (stylusref09_Drop.mono _ _ k) fun _ => LeO.refl _) (LeO.ite (LeO.bind (stylusref09_Move.mono _ _ _ k) fun _ => LeO.refl _) (LeO.refl _)))
theorem standsOf_mono (k : Nat) (st : FoS) (q : RL) : LeO (standsOf k st q) (standsOf (k + 1) st q) := by
  unfold standsOf
  refine LeO.bind (LeO.refl _) fun _ => LeO.bind (styluslaw09_like.mono _ _ k) fun _ => LeO.ite (LeO.bind (LeO.refl _) fun _ => LeO.bind (styluslaw09_like.mono _ _ k) fun _ => LeO.ite (LeO.ite (LeO.bind (stylusref09_IDs.mono _ k) fun _ => LeO.bind (styluslaw09_ints.mono _ _ k) fun _ => LeO.refl _) (LeO.refl _)) (LeO.refl _)) (LeO.refl _)
theorem playsGo_mono (k : Nat) (l : List S40) : ∀ st q, LeO (playsGo k l st q) (playsGo (k + 1) l st q) := by
  induction l with
  | nil => exact fun st q => LeO.refl _
  | cons o r ih =>
    intro st q
    unfold playsGo
    exact LeO.ite (LeO.ite (LeO.ite (ih _ _) (LeO.refl _)) (LeO.bind (stepOf_mono k _ _ _ _ _ _) fun _ => LeO.ite (LeO.bind (standsOf_mono k _ _) fun _ => ih _ _) (LeO.refl _))) (LeO.refl _)
theorem styluslaw09_FolderPlays.mono : ∀ l s k, LeO (styluslaw09_FolderPlays.f k l s) (styluslaw09_FolderPlays.f (k + 1) l s) := fun l s k =>
  LeO.ite (LeO.refl _) (LeO.bind (playsGo_mono k l _ _) fun _ => LeO.bind (LeO.refl _) fun _ => LeO.bind (stylusref09_Find.mono _ _ k) fun _ => LeO.refl _)
theorem Both.more {w0 W : World} {G : Nat → Prop} {b : Nat} {st : FoS} {v : Value} {q : RL} (h : Both w0 W G b st v q) (o : Obj) : Both w0 (W.alloc o) (fun k => G k ∨ k = W.heap.size) b st v q := by
  obtain ⟨S, P, h1, h2, h3, h4⟩ := Both.below h (below_alloc (Below.refl _ _) o) |> fun _ => h
  refine ⟨S, P, Fo.below h1 (below_alloc (Below.refl _ _) o), VL_any (Kd.V_alloc h2 o), fun k hk => ⟨(h3 k hk).1, (h3 k hk).2.1, Nat.lt_of_lt_of_le (h3 k hk).2.2.1 (by simp), fun hg => ?_⟩, fun k hk => ⟨Nat.lt_of_lt_of_le (h4 k hk).1 (by simp), fun hg => ?_⟩⟩
  · rcases hg with hg | hg
    · exact (h3 k hk).2.2.2 hg
    · have := (h3 k hk).2.2.1; omega
  · rcases hg with hg | hg
    · exact (h4 k hk).2 hg
    · have := (h4 k hk).1; omega
theorem Both.less {w0 W : World} {G G' : Nat → Prop} {b : Nat} {st : FoS} {v : Value} {q : RL} (h : Both w0 W G b st v q) (hg : ∀ k, G' k → G k) : Both w0 W G' b st v q := by
  obtain ⟨S, P, h1, h2, h3, h4⟩ := h
  exact ⟨S, P, h1, h2, fun k hk => ⟨(h3 k hk).1, (h3 k hk).2.1, (h3 k hk).2.2.1, fun h => (h3 k hk).2.2.2 (hg k h)⟩, fun k hk => ⟨(h4 k hk).1, fun h => (h4 k hk).2 (hg k h)⟩⟩
theorem Both.set {w0 W : World} {G : Nat → Prop} {b g : Nat} {st : FoS} {v : Value} {q : RL} (h : Both w0 W G b st v q) (hg : G g) (j : Nat) (u : Value) : Both w0 (W.setCell ⟨g, j, none⟩ u) G b st v q := by
  obtain ⟨S, P, h1, h2, h3, h4⟩ := h
  have hs : (W.setCell ⟨g, j, none⟩ u).heap.size = W.heap.size := by simp
  refine ⟨S, P, Fo.kept h1 ((Kep.refl W (fun k => k = g)).setCell (p := ⟨g, j, none⟩) (.inl rfl) u) (fun k hk e => ?_), VL_any (Kd.V_far h2 (p := ⟨g, j, none⟩) (fun k hk e => ?_) u), fun k hk => by rw [hs]; exact h3 k hk, fun k hk => by rw [hs]; exact h4 k hk⟩
  · subst e
    exact (h3 _ hk).2.2.2 hg
  · have e : k = g := e
    subst e
    exact (h4 _ hk).2 hg
theorem Both.drew {w0 W : World} {G : Nat → Prop} {b : Nat} {st : FoS} {v : Value} {q : RL} (h : Both w0 W G b st v q) : Both w0 W.drew G b st v q := h.below (below_drew (Below.refl _ _))
theorem over_put (q : FoS) (S : Nat → Prop) (b : Nat) (hf : q.few) (w : World) (h : q.at w S b) :
    Calls Try.prog 8 #[.pointer (some ⟨b, 0, none⟩), .string (⟨#[111, 118, 101, 114]⟩ : ByteArray), .int .i64 9] w fun e w' => (∃ v, e = .returned v) ∧ (q.put overS 9).at w' (fun k => S k ∨ w.heap.size ≤ k) b ∧ Kep w w' S :=
  (put_at q S b overS 9 (by show 4 ≤ maxLen; decide) rfl hf w h).mono (fun e w' h => ⟨⟨_, h.1⟩, h.2⟩)
theorem plays_cons {k : Nat} {l : List S40} {i : Nat} (h : i < l.length) : l.drop i = rd_T40 l (i : Int) :: l.drop (i + 1) := by
  rw [List.drop_eq_getElem_cons h]
  simp [rd_T40, List.getD_eq_getElem?_getD, List.getElem?_eq_getElem h]
theorem plays_new {w w1 w2 : World} {b : Nat} {st : FoS} {v : Value} {q : RL} (hf : st.at w1 (fun k => w.heap.size ≤ k) b) (hb1 : Below w.heap.size w w1) (hS : Kd.S (Kd.slice 74 k74) 45 w2 w1.heap.size (fun _ => True) v q) (hb2 : Below w1.heap.size w1 w2) : Both w w2 (fun _ => False) b st v q :=
  Both.mk_ (S := fun k => w.heap.size ≤ k ∧ k < w1.heap.size) (P := fun k => w1.heap.size ≤ k) (Fo.below (at_tight hf) hb2) (VL_any (Kd.R_V (base' := w2.heap.size) (Kd.R_mono (Kd.R_bound (Kd.S_R hS)) (fun k hk => hk.2.1)))) (fun k hk _ hp => by have := hk.2; have := hp.1; omega) (fun k hk => hk.1) (fun k _ h => h) (fun k _ h => h)
theorem plays_gl (wr : World) (g6 : Nat) (o : Obj) (h6 : g6 < wr.heap.size) : ∀ k, (k = g6 ∨ k = wr.heap.size) → k < (wr.alloc o).drew.heap.size := by
  intro k h
  have h7 : (wr.alloc o).drew.heap.size = wr.heap.size + 1 := by simp
  rw [h7]
  omega
set_option maxHeartbeats 16000000 in
set_option maxRecDepth 100000 in
theorem plays_run (k : Nat) (A0 : Option Addr) (c0 : Nat) (l : List S40) (s : ByteArray) (r : Bool) (stE : FoS) (qE : RL) (n1 : List S74) (w : World) (hr0 : Kd.C k40 w A0 l.length l) (hl : l.length ≤ 30) (hs : s.size ≤ maxLen) (hg : playsGo k l ⟨[], [], []⟩ [[]] = some (stE, qE)) (h1 : stylusref09_Now.f qE = some n1) (h2 : stylusref09_Find.f k n1 s = some (nmGet stE.n s.data.toList, nmHas stE.n s.data.toList)) (hL : styluslaw09_lives.f = some r) :
    Calls Try.prog 4 #[.slice A0 l.length c0, .string s] w fun e w' => e = .returned (.bool r) ∧ Below w.heap.size w w' := by
  have huP := Try.underlying25
  have huF := Try.underlying37
  have huO := Try.underlying40
  have hd30 : decide (30 < (l.length : Int)) = false := decide_eq_false (by omega)
  have hd30' : decide (30 < l.length) = false := decide_eq_false (by omega)
  have HC := Aside0.mk hr0
  have HS := Aside0.mk hs
  have HG0 := Aside0.mk hg
  have H1 := Aside0.mk h1
  have H2 := Aside0.mk h2
  have HL := Aside0.mk hL
  clear hr0 hs hg h1 h2 hL
  go_enter Try.func4, Try.ntmps4
  go_upto_region 4 with (first
    | (go_at_call 7; (with_reducible refine (new_at _).mono ?_); rintro e w1 ⟨rfl, hf, hb⟩; have F1 := Aside0.mk hf; have B1 := Aside0.mk hb; clear hf hb)
    | (go_at_call 14; (with_reducible refine (stylusref09_New.calls _ _ rfl).mono ?_); rintro e w2 ⟨v2, rfl, hS2, hb2⟩; have HBO := Aside0.mk (plays_new F1.out B1.out hS2 hb2); have B2 := Aside0.mk (below_step B1.out hb2); obtain ⟨A2, c2, rfl⟩ := Kd.R_slice (Kd.S_R hS2); clear hS2 hb2 F1 B1))
  have HBO3 := Aside0.mk (Both.less (Both.more HBO.out (.cells #[.slice A2 ([[]] : RL).length c2] 37)) (G' := fun k => k = w2.heap.size) (fun k h => .inr h))
  have K6 := Aside0.mk (heap_alloc_new w2 (.cells #[.slice A2 ([[]] : RL).length c2] 37))
  have B3 := Aside0.mk (below_alloc B2.out (.cells #[.slice A2 ([[]] : RL).length c2] 37))
  have HG6 := Aside0.mk (show w.heap.size ≤ w2.heap.size from B2.out.size)
  clear HBO B2
  generalize w2.heap.size = g6 at *
  go_wp2_with fail
  go_loopw [5, 7] (fun v5 x wr => ∃ (i b : Nat) (st : FoS) (q : RL) (A : Option Addr) (c : Nat), v5 = .pointer (some ⟨b, 0, none⟩) ∧ x = .int .i64 i ∧ i ≤ l.length ∧ Aside0 (playsGo k (l.drop i) st q = some (stE, qE)) ∧ Aside0 (wr.heap[g6]? = some (.cells #[.slice A q.length c] 37 (0, 0))) ∧ Aside0 (Both w wr (fun k => k = g6) b st (.slice A q.length c) q) ∧ Aside0 (Below w.heap.size w wr)) (fun _ x _ => l.length - (intOf x).toNat)
  case atStart => exact ⟨0, _, _, [[]], A2, c2, rfl, rfl, Nat.zero_le _, HG0, K6, HBO3, B3⟩
  case round =>
    obtain ⟨i, b, st, q, A, c, rfl, rfl, hi, HGO, K6, HBO, B3⟩ := hrel
    by_cases hq : i < l.length
    · have p0 : (0 : Int) ≤ (i : Int) := Int.natCast_nonneg _
      have q0 : (i : Int) < (l.length : Int) := by omega
      have hgo := HGO.out
      rw [plays_cons (k := k) hq] at hgo
      obtain ⟨ad0, e0, hx0, hx1, hx2, hx3⟩ := at_T40 HC.out (i : Int) p0 q0
      cases e0
      simp only [Int.toNat_natCast] at hx0 hx1 hx2 hx3
      generalize rd_T40 l (i : Int) = o at *
      obtain ⟨kd, n, s1, t1⟩ := o
      dsimp only at hx0 hx1 hx2 hx3
      have X0 := Aside0.mk hx0
      have X1 := Aside0.mk hx1
      have X2 := Aside0.mk hx2
      have X3 := Aside0.mk hx3
      have y0 := pw_cell_below B3.out hx0
      clear hx0 hx1 hx2 hx3 HGO
      unfold playsGo at hgo
      split at hgo
      case isFalse => cases hgo
      rename_i hfit
      have HFIT := Aside0.mk hfit.1
      have HFEW := Aside0.mk hfit.2
      clear hfit
      by_cases h5 : kd = 5
      · rw [if_pos h5] at hgo
        split at hgo
        case isFalse => cases hgo
        rename_i hov
        subst h5
        have HOV := Aside0.mk hov
        have HGO := Aside0.mk hgo
        clear hov hgo
        obtain ⟨S, P, hF, hV, hS, hP⟩ := HBO.out
        have HF := Aside0.mk hF
        have HV := Aside0.mk hV
        have HSS := Aside0.mk hS
        have HPP := Aside0.mk hP
        have HCL := Aside0.mk (show st.w.length ≤ 1000000 from Nat.le_trans HFEW.out.2.2 (by decide))
        clear hF hV hS hP HBO
        go_wp2_with (first
          | (go_at_call 15; (with_reducible refine (folder_Folder_Copy.calls S b st.k st.n st.w HCL.out _ HF.out).mono ?_); rintro e w5 ⟨b5, rfl, hf5, hb5⟩; have F5 := Aside0.mk (show st.at w5 (fun k => wr.heap.size ≤ k ∧ k < w5.heap.size) b5 from at_tight (q := st) hf5); have O5 := Aside0.mk (show st.at w5 S b from Fo.below HF.out hb5); have V5 := Aside0.mk (VL_any (Kd.V_below HV.out hb5)); have G5 := Aside0.mk (blk_below K6.out hb5); have B5 := Aside0.mk (below_step B3.out hb5); have Z5 := Aside0.mk hb5.size; clear hf5 hb5)
          | (go_at_call 8; (with_reducible refine (over_put st S b HFEW.out _ O5.out).mono ?_); rintro e w6 ⟨⟨v6, rfl⟩, hf6, hk6⟩; have O6 := Aside0.mk hf6; have F6 := Aside0.mk (show st.at w6 (fun k => wr.heap.size ≤ k ∧ k < w5.heap.size) b5 from Fo.kept F5.out hk6 (fun k hk hs => by have := (HSS.out k hs).2.2.1; omega)); have V6 := Aside0.mk (VL_any (Kd.V_kept V5.out hk6.k (fun k hk hs => (HSS.out k hs).1 hk))); have G6 := Aside0.mk (blk_kept G5.out hk6.k (fun hs => (HSS.out g6 hs).2.2.2 rfl)); have B6 := Aside0.mk (B5.out.trans (hk6.out (B := w.heap.size) B5.out.size (fun k hk => (HSS.out k hk).2.1))); clear hf6 hk6)
          | (go_at_call 9; (with_reducible refine (sync_at (st.put overS 9) (fun k => S k ∨ w5.heap.size ≤ k) b HOV.out _ O6.out).mono ?_); rintro e w7 ⟨⟨v7, rfl⟩, hf7, hk7⟩; have F7 := Aside0.mk (show st.at w7 (fun k => wr.heap.size ≤ k ∧ k < w5.heap.size) b5 from Fo.kept F6.out hk7 (fun k hk hs => hs.elim (fun hs => by have := (HSS.out k hs).2.2.1; omega) (fun hs => by omega))); have V7 := Aside0.mk (VL_any (Kd.V_kept V6.out hk7.k (fun k hk hs => hs.elim (fun hs => (HSS.out k hs).1 hk) (fun hs => by have h1 := (HPP.out k hk).1; have h2 := Z5.out; omega)))); have G7 := Aside0.mk (blk_kept G6.out hk7.k (fun hs => hs.elim (fun hs => (HSS.out g6 hs).2.2.2 rfl) (fun hs => by have h1 := blk_lt G5.out; omega))); have B7 := Aside0.mk (B6.out.trans (hk7.out (B := w.heap.size) B6.out.size (fun k hk => hk.elim (fun hk => (HSS.out k hk).2.1) (fun hk => Nat.le_trans B5.out.size hk)))); clear hf7 hk7))
        go_roundw
        case rel => exact ⟨i + 1, b5, st, q, A, c, rfl, by go_num, by omega, HGO, G7, ⟨Both.mk_ (S := fun k => wr.heap.size ≤ k ∧ k < w5.heap.size) (P := P) F7.out V7.out (fun k hk _ hp => by have := (HPP.out k hp.1).1; omega) (fun k hk => Nat.le_trans B3.out.size hk.1) (fun k hk e => by subst e; have := blk_lt K6.out; omega) (fun k hk => (HPP.out k hk).2)⟩, B7⟩
        case measure => simp [intOf]; omega
      · rw [if_neg h5] at hgo
        obtain ⟨⟨st', q'⟩, e1, hgo⟩ := Option.bind_eq_some_iff.mp hgo
        split at hgo
        case isFalse => cases hgo
        rename_i hfew2
        obtain ⟨u, e2, hgo⟩ := Option.bind_eq_some_iff.mp hgo
        have h5b : (kd == 5) = false := beq_eq_false_iff_ne.2 h5
        have HST := Aside0.mk e1
        have HFEW2 := Aside0.mk hfew2
        have HSD := Aside0.mk (show standsOf k st' q' = some () from e2)
        have HGO := Aside0.mk hgo
        clear e1 hfew2 e2 hgo h5
        have HGL := Aside0.mk (show ∀ k, k = g6 → k < wr.drew.heap.size from fun k h => h ▸ blk_lt K6.out)
        have HGL2 := Aside0.mk (plays_gl wr g6 (.cells #[.slice none 0 0] 37) (blk_lt K6.out))
        have HNE := Aside0.mk (show g6 ≠ wr.heap.size from Nat.ne_of_lt (blk_lt K6.out))
        go_upto_region 14 with fail
        refine start_ (n := 13) (S := fun w' => w'.cell? ⟨g6, 0, none⟩ = some (.slice A q.length c) ∧ w'.cell? (ad0.add (i * 4)) = some (.int .i64 kd) ∧ w'.cell? ⟨(ad0.add (i * 4)).block, (ad0.add (i * 4)).off + 1, none⟩ = some (.int .i64 n) ∧ w'.cell? ⟨(ad0.add (i * 4)).block, (ad0.add (i * 4)).off + 2, none⟩ = some (.string s1) ∧ w'.cell? ⟨(ad0.add (i * 4)).block, (ad0.add (i * 4)).off + 3, none⟩ = some (.string t1)) (ds := [11]) #[false, false, false, false, false, false, false, false, false, false, false, false, false] (by kernel_rfl) rfl rfl ⟨(blk_cell (blk_drew K6.out) 0).trans rfl, pw_cell_below (below_drew B3.out) X0.out, pw_cell_below (below_drew B3.out) X1.out, pw_cell_below (below_drew B3.out) X2.out, pw_cell_below (below_drew B3.out) X3.out⟩ (fun hHeld => ?_)
        refine pure_ (i := 0) (N := some 43) (v := ?_) (a' := ?_) #[true, false, false, false, false, false, false, false, false, false, false, false, false] rfl rfl (by kernel_rfl) (fun _ _ _ h => h) (Or.inl ⟨by rfl, ?_⟩) ?_ ?_
        rotate_left
        · intro w'
          go_simp
          with_reducible rfl
        rotate_left
        · simp only [Act.put, List.setIfInBounds_toArray, List.set_cons_zero, List.set_cons_succ, i64_w, i32_w]
          rfl
        refine pure_ (i := 2) (N := some 45) (v := ?_) (a' := ?_) #[true, false, true, false, false, false, false, false, false, false, false, false, false] rfl rfl (by kernel_rfl) (fun _ _ _ h => h) (Or.inl ⟨by rfl, ?_⟩) ?_ ?_
        rotate_left
        · intro w'
          go_simp
          with_reducible rfl
        rotate_left
        · simp only [Act.put, List.setIfInBounds_toArray, List.set_cons_zero, List.set_cons_succ, i64_w, i32_w]
          rfl
        refine pure_ (i := 3) (N := some 46) (v := ?_) (a' := ?_) #[true, false, true, true, false, false, false, false, false, false, false, false, false] rfl rfl (by kernel_rfl) (fun _ _ _ h => h) (Or.inl ⟨by rfl, ?_⟩) ?_ ?_
        rotate_left
        · intro w'
          go_simp
          with_reducible rfl
        rotate_left
        · simp only [Act.put, List.setIfInBounds_toArray, List.set_cons_zero, List.set_cons_succ, i64_w, i32_w]
          rfl
        refine pure_ (i := 4) (N := some 47) (v := ?_) (a' := ?_) #[true, false, true, true, true, false, false, false, false, false, false, false, false] rfl rfl (by kernel_rfl) (fun _ _ _ h => h) (Or.inl ⟨by rfl, ?_⟩) ?_ ?_
        rotate_left
        · intro w'
          go_simp
          with_reducible rfl
        rotate_left
        · simp only [Act.put, List.setIfInBounds_toArray, List.set_cons_zero, List.set_cons_succ, i64_w, i32_w]
          rfl
        refine take_ (i := 1) (N := some 44) (v := ?_) (a' := ?_) #[true, true, true, true, true, false, false, false, false, false, false, false, false] rfl rfl (by kernel_rfl) (fun _ _ _ h => h) (Or.inl ⟨by rfl, ?_⟩) hHeld ?_ ?_
        rotate_left
        · rintro w' ⟨s0, s1, s2, s3, s4⟩
          go_simp
          with_reducible rfl
        rotate_left
        · simp only [Act.put, List.setIfInBounds_toArray, List.set_cons_zero, List.set_cons_succ, i64_w, i32_w]
          rfl
        refine take_ (i := 5) (N := some 48) (v := ?_) (a' := ?_) #[true, true, true, true, true, true, false, false, false, false, false, false, false] rfl rfl (by kernel_rfl) (fun _ _ _ h => h) (Or.inl ⟨by rfl, ?_⟩) hHeld ?_ ?_
        rotate_left
        · rintro w' ⟨s0, s1, s2, s3, s4⟩
          go_simp
          with_reducible rfl
        rotate_left
        · simp only [Act.put, List.setIfInBounds_toArray, List.set_cons_zero, List.set_cons_succ, i64_w, i32_w]
          rfl
        refine join_ (σ := (Option Addr × Nat) × Nat) 2 #[true, true, true, true, true, true, true, true, true, true, true, false, false] (fun s_ => [(49, .tuple #[.agg #[.slice s_.1.1 q'.length s_.1.2], .bool true]), (9, .pointer (some ⟨s_.2, 0, none⟩)), (42, .tuple #[.agg #[.slice s_.1.1 q'.length s_.1.2], .bool true]), (50, .agg #[.slice s_.1.1 q'.length s_.1.2]), (51, .bool true)]) (fun s_ w' => (w'.cell? ⟨g6, 0, none⟩ = some (.slice A q.length c) ∧ w'.cell? (ad0.add (i * 4)) = some (.int .i64 kd) ∧ w'.cell? ⟨(ad0.add (i * 4)).block, (ad0.add (i * 4)).off + 1, none⟩ = some (.int .i64 n) ∧ w'.cell? ⟨(ad0.add (i * 4)).block, (ad0.add (i * 4)).off + 2, none⟩ = some (.string s1) ∧ w'.cell? ⟨(ad0.add (i * 4)).block, (ad0.add (i * 4)).off + 3, none⟩ = some (.string t1)) ∧ Aside0 (Both w w' (fun k => k = g6 ∨ k = s_.2) b st' (.slice s_.1.1 q'.length s_.1.2) q' ∧ w'.heap[g6]? = some (.cells #[.slice A q.length c] 37 (0, 0)) ∧ w'.heap[s_.2]? = some (.cells #[.slice none 0 0] 37 (0, 0)) ∧ Below w.heap.size w w' ∧ g6 ≠ s_.2 ∧ w.heap.size ≤ s_.2)) ?_ ?_
        rotate_left
        · intro hCont
          refine two_ (i := 6) (j := 10) (Ni := some 49) (Nj := some 9) #[true, true, true, true, true, true, true, false, false, false, false, false, false] #[true, true, true, true, true, true, false, false, false, false, true, false, false] rfl rfl rfl rfl (by kernel_rfl) (by decide) (by decide) (fun K hK => ?_) (fun K hK => ?_)
          · skip
            refine goes_ Try.func16 (by kernel_rfl) rfl #[.pointer (some ⟨b, 0, none⟩), .agg #[.slice A q.length c], .agg #[.int .i64 kd, .int .i64 n, .string s1, .string t1]] (by rfl) rfl rfl (by (try simp only [List.map_toArray, List.map_cons, List.map_nil]); first | done | rfl) ?_
            with_reducible refine (styluslaw09_step.calls k w (fun k => k = g6) b st st' q q' A c kd n s1 t1 HFIT.out HFEW.out HST.out _ HBO.out.drew HGL.out (below_drew B3.out)).mono ?_
            rintro e w5 ⟨A5, c5, rfl, hB5, hw5, hk5⟩
            refine ⟨_, rfl, ?_⟩
            have K6 := Aside0.mk (blk_kept (blk_drew K6.out) hk5.k (fun h => h rfl))
            have HB5 := Aside0.mk hB5
            have B5 := Aside0.mk hw5
            clear hB5 hw5 hk5
            refine hK.out _ _ ⟨(blk_cell (K6.out) 0).trans rfl, pw_cell_below (B5.out) X0.out, pw_cell_below (B5.out) X1.out, pw_cell_below (B5.out) X2.out, pw_cell_below (B5.out) X3.out⟩ (fun hHeld => ?_)
            clear hK K
            refine norm_ (a' := ?_) ?_ ?_
            rotate_left
            · show Act.put _ (some 49) _ = _
              simp only [Act.put, List.setIfInBounds_toArray, List.set_cons_zero, List.set_cons_succ, i64_w, i32_w]
              rfl
            refine pure_ (i := 7) (N := some 42) (v := ?_) (a' := ?_) #[true, true, true, true, true, true, true, true, false, false, false, false, false] rfl rfl (by kernel_rfl) (fun _ _ _ h => h) (Or.inl ⟨by rfl, ?_⟩) ?_ ?_
            rotate_left
            · intro w'
              go_simp
              with_reducible rfl
            rotate_left
            · simp only [Act.put, List.setIfInBounds_toArray, List.set_cons_zero, List.set_cons_succ, i64_w, i32_w]
              rfl
            refine pure_ (i := 8) (N := some 50) (v := ?_) (a' := ?_) #[true, true, true, true, true, true, true, true, true, false, false, false, false] rfl rfl (by kernel_rfl) (fun _ _ _ h => h) (Or.inl ⟨by rfl, ?_⟩) ?_ ?_
            rotate_left
            · intro w'
              go_simp
              with_reducible rfl
            rotate_left
            · simp only [Act.put, List.setIfInBounds_toArray, List.set_cons_zero, List.set_cons_succ, i64_w, i32_w]
              rfl
            refine pure_ (i := 9) (N := some 51) (v := ?_) (a' := ?_) #[true, true, true, true, true, true, true, true, true, true, false, false, false] rfl rfl (by kernel_rfl) (fun _ _ _ h => h) (Or.inl ⟨by rfl, ?_⟩) ?_ ?_
            rotate_left
            · intro w'
              go_simp
              with_reducible rfl
            rotate_left
            · simp only [Act.put, List.setIfInBounds_toArray, List.set_cons_zero, List.set_cons_succ, i64_w, i32_w]
              rfl
            refine one_ (i := 10) (N := some 9) #[true, true, true, true, true, true, true, true, true, true, true, false, false] rfl rfl (by kernel_rfl) (by decide) (fun K hK => ?_)
            refine value_ (w1 := ?_) (v := ?_) (by rfl) rfl ?_ ?_
            rotate_left 2
            · go_simp
              constructor
              · rfl
              · rfl
            refine hK.out _ _ ⟨(blk_cell (blk_alloc K6.out _) 0).trans rfl, pw_cell_below (below_alloc B5.out _) X0.out, pw_cell_below (below_alloc B5.out _) X1.out, pw_cell_below (below_alloc B5.out _) X2.out, pw_cell_below (below_alloc B5.out _) X3.out⟩ (fun hHeld => ?_)
            clear hK K
            refine norm_ (a' := ?_) ?_ ?_
            rotate_left
            · show Act.put _ (some 9) _ = _
              simp only [Act.put, List.setIfInBounds_toArray, List.set_cons_zero, List.set_cons_succ, i64_w, i32_w]
              rfl
            exact norm_ (by simp only [putAll, Act.put, List.setIfInBounds_toArray, List.set_cons_zero, List.set_cons_succ]) (hCont ((A5, c5), w5.heap.size) _ ⟨hHeld, ⟨Both.more HB5.out _, blk_alloc K6.out _, heap_alloc_new _ _, below_alloc B5.out _, Nat.ne_of_lt (blk_lt K6.out), B5.out.size⟩⟩)
          · skip
            refine value_ (w1 := ?_) (v := ?_) (by rfl) rfl ?_ ?_
            rotate_left 2
            · go_simp
              constructor
              · rfl
              · rfl
            refine hK.out _ _ ⟨(blk_cell (blk_alloc (blk_drew K6.out) _) 0).trans rfl, pw_cell_below (below_alloc (below_drew B3.out) _) X0.out, pw_cell_below (below_alloc (below_drew B3.out) _) X1.out, pw_cell_below (below_alloc (below_drew B3.out) _) X2.out, pw_cell_below (below_alloc (below_drew B3.out) _) X3.out⟩ (fun hHeld => ?_)
            clear hK K
            refine norm_ (a' := ?_) ?_ ?_
            rotate_left
            · show Act.put _ (some 9) _ = _
              simp only [Act.put, List.setIfInBounds_toArray, List.set_cons_zero, List.set_cons_succ, i64_w, i32_w]
              rfl
            refine one_ (i := 6) (N := some 49) #[true, true, true, true, true, true, true, false, false, false, true, false, false] rfl rfl (by kernel_rfl) (by decide) (fun K hK => ?_)
            refine goes_ Try.func16 (by kernel_rfl) rfl #[.pointer (some ⟨b, 0, none⟩), .agg #[.slice A q.length c], .agg #[.int .i64 kd, .int .i64 n, .string s1, .string t1]] (by rfl) rfl rfl (by (try simp only [List.map_toArray, List.map_cons, List.map_nil]); first | done | rfl) ?_
            with_reducible refine (styluslaw09_step.calls k w (fun k => k = g6 ∨ k = wr.heap.size) b st st' q q' A c kd n s1 t1 HFIT.out HFEW.out HST.out _ (Both.drew (Both.more HBO.out _)) HGL2.out (below_drew (below_alloc B3.out _))).mono ?_
            rintro e w5 ⟨A5, c5, rfl, hB5, hw5, hk5⟩
            refine ⟨_, rfl, ?_⟩
            have K9 := Aside0.mk (blk_kept (blk_drew (heap_alloc_new wr _)) hk5.k (fun h => h (.inr rfl)))
            have K6 := Aside0.mk (blk_kept (blk_drew (blk_alloc K6.out _)) hk5.k (fun h => h (.inl rfl)))
            have HB5 := Aside0.mk hB5
            have B5 := Aside0.mk hw5
            clear hB5 hw5 hk5
            refine hK.out _ _ ⟨(blk_cell (K6.out) 0).trans rfl, pw_cell_below (B5.out) X0.out, pw_cell_below (B5.out) X1.out, pw_cell_below (B5.out) X2.out, pw_cell_below (B5.out) X3.out⟩ (fun hHeld => ?_)
            clear hK K
            refine norm_ (a' := ?_) ?_ ?_
            rotate_left
            · show Act.put _ (some 49) _ = _
              simp only [Act.put, List.setIfInBounds_toArray, List.set_cons_zero, List.set_cons_succ, i64_w, i32_w]
              rfl
            refine pure_ (i := 7) (N := some 42) (v := ?_) (a' := ?_) #[true, true, true, true, true, true, true, true, false, false, true, false, false] rfl rfl (by kernel_rfl) (fun _ _ _ h => h) (Or.inl ⟨by rfl, ?_⟩) ?_ ?_
            rotate_left
            · intro w'
              go_simp
              with_reducible rfl
            rotate_left
            · simp only [Act.put, List.setIfInBounds_toArray, List.set_cons_zero, List.set_cons_succ, i64_w, i32_w]
              rfl
            refine pure_ (i := 8) (N := some 50) (v := ?_) (a' := ?_) #[true, true, true, true, true, true, true, true, true, false, true, false, false] rfl rfl (by kernel_rfl) (fun _ _ _ h => h) (Or.inl ⟨by rfl, ?_⟩) ?_ ?_
            rotate_left
            · intro w'
              go_simp
              with_reducible rfl
            rotate_left
            · simp only [Act.put, List.setIfInBounds_toArray, List.set_cons_zero, List.set_cons_succ, i64_w, i32_w]
              rfl
            refine pure_ (i := 9) (N := some 51) (v := ?_) (a' := ?_) #[true, true, true, true, true, true, true, true, true, true, true, false, false] rfl rfl (by kernel_rfl) (fun _ _ _ h => h) (Or.inl ⟨by rfl, ?_⟩) ?_ ?_
            rotate_left
            · intro w'
              go_simp
              with_reducible rfl
            rotate_left
            · simp only [Act.put, List.setIfInBounds_toArray, List.set_cons_zero, List.set_cons_succ, i64_w, i32_w]
              rfl
            exact norm_ (by simp only [putAll, Act.put, List.setIfInBounds_toArray, List.set_cons_zero, List.set_cons_succ]) (hCont ((A5, c5), wr.heap.size) _ ⟨hHeld, ⟨HB5.out, K6.out, K9.out, B5.out, HNE.out, B3.out.size⟩⟩)
        rintro ⟨⟨A5, c5⟩, g9⟩ w5 ⟨hS_, hF_⟩
        obtain ⟨f0, f1, f2, f3, f4, f5⟩ := hF_.out
        dsimp only at f0 f2 f4 f5
        clear K6 HBO B3 hF_
        have HB5 := Aside0.mk f0
        have K6 := Aside0.mk f1
        have K9 := Aside0.mk f2
        have B5 := Aside0.mk f3
        have HNE9 := Aside0.mk f4
        have HLE9 := Aside0.mk f5
        clear f0 f1 f2 f3 f4 f5
        have hHeld := hS_
        clear hS_
        refine norm_ (a' := ?_) ?_ ?_
        rotate_left
        · simp only [putAll, Act.put, List.setIfInBounds_toArray, List.set_cons_zero, List.set_cons_succ]
          rfl
        refine last_ (i := 11) (N := none) #[true, true, true, true, true, true, true, true, true, true, true, true, false] rfl rfl (by kernel_rfl) (by decide) (fun K hK => ?_)
        have hs_ := (blk_cell K9.out 0).trans rfl
        have hf_ := blk_frozen K9.out 0
        refine skip_ (w1 := ?_) (by rfl) rfl ?_ ?_
        rotate_left
        · go_simp
          rfl
        refine hK.out _ _ ?_
        clear hK K
        refine pure_ (i := 12) (N := some 10) (v := ?_) (a' := ?_) #[true, true, true, true, true, true, true, true, true, true, true, true, true] rfl rfl (by kernel_rfl) (fun _ _ _ h => h) (Or.inl ⟨by rfl, ?_⟩) ?_ ?_
        rotate_left
        · intro w'
          go_simp
          with_reducible rfl
        rotate_left
        · simp only [Act.put, List.setIfInBounds_toArray, List.set_cons_zero, List.set_cons_succ, i64_w, i32_w]
          rfl
        refine done_ (by kernel_rfl) ?_
        have K9' := Aside0.mk (blk_put (cs' := #[.slice A5 q'.length c5]) K9.out 0 (.slice A5 q'.length c5) rfl)
        have K6' := Aside0.mk (blk_far K6.out (p := ⟨g9, 0, none⟩) HNE9.out (.slice A5 q'.length c5))
        have HB7 := Aside0.mk (Both.set HB5.out (g := g9) (.inr rfl) 0 (.slice A5 q'.length c5))
        have B7 := Aside0.mk (B5.out.setCell (p := ⟨g9, 0, none⟩) HLE9.out (.slice A5 q'.length c5))
        clear K9 K6 HB5 B5 hHeld y0
        generalize w5.setCell ⟨g9, 0, none⟩ (.slice A5 q'.length c5) = w7 at *
        have c9 := (blk_cell K9'.out 0).trans rfl
        have c6 := (blk_cell K6'.out 0).trans rfl
        have f6 := blk_frozen K6'.out 0
        have HSDC := Aside0.mk (styluslaw09_stands.calls k w (fun k => k = g6 ∨ k = g9) b st' q' A5 c5 HFEW2.out HSD.out _ (Both.set HB7.out (g := g6) (.inl rfl) 0 (.slice A5 q'.length c5)))
        go_wp2_with (go_at_call 17; (with_reducible refine HSDC.out.mono ?_); rintro e w9 ⟨rfl, hb9⟩; have HB9 := Aside0.mk hb9; clear hb9)
        go_roundw
        case rel => exact ⟨i + 1, b, st', q', A5, c5, rfl, by go_num, by omega, HGO, ⟨blk_below (blk_put (cs' := #[.slice A5 q'.length c5]) K6'.out 0 (.slice A5 q'.length c5) rfl) HB9.out⟩, ⟨Both.less (Both.below (Both.set HB7.out (g := g6) (.inl rfl) 0 (.slice A5 q'.length c5)) HB9.out) (fun k h => .inl h)⟩, ⟨below_step (B7.out.setCell (p := ⟨g6, 0, none⟩) HG6.out (.slice A5 q'.length c5)) HB9.out⟩⟩
        case measure => simp [intOf]; omega
    · obtain rfl : i = l.length := by omega
      have hgo := HGO.out
      rw [List.drop_length] at hgo
      obtain ⟨rfl, rfl⟩ := Prod.mk.inj (Option.some.inj hgo)
      obtain ⟨S, P, hF, hV, hS, hP⟩ := HBO.out
      have HF := Aside0.mk hF
      have HV := Aside0.mk hV
      have c6 := (blk_cell K6.out 0).trans rfl
      clear hF hV hS hP HBO HGO hgo
      go_wp2_with (first
        | (go_at_call 12; (with_reducible refine (find_at st S b s _ _ HS.out _ HF.out rfl rfl).mono ?_); rintro e w4 ⟨rfl, hw4⟩; obtain rfl := hw4.symm)
        | (go_at_call 19; (with_reducible refine (stylusref09_Now.calls P A c q n1 _ HV.out H1.out).mono ?_); rintro e w5 ⟨v5, rfl, hV5, hb5⟩; obtain ⟨A5, c5, rfl⟩ := Kd.V_slice hV5; have HV5 := Aside0.mk (Kd.V_reads' hV5).2; have B5 := Aside0.mk (below_step B3.out hb5); clear hV5 hb5)
        | (go_at_call 18; (with_reducible refine (stylusref09_Find.calls k A5 c5 n1 s _ _ _ HV5.out.2 HV5.out.1 H2.out).mono ?_); rintro e w6 ⟨rfl, hd6⟩; have B6 := Aside0.mk (below_step B5.out hd6.below); clear hd6)
        | (go_at_call 6; (with_reducible refine (styluslaw09_lives.calls _ _ HL.out).mono ?_); rintro e w7 ⟨rfl, hb7⟩; have B7 := Aside0.mk (below_step B6.out hb7); clear hb7))
      go_ret
      exact ⟨rfl, B7.out⟩
set_option maxHeartbeats 4000000 in
theorem plays_many (A0 : Option Addr) (c0 : Nat) (l : List S40) (s : ByteArray) (r : Bool) (w : World) (hl : 30 < l.length) (hL : styluslaw09_lives.f = some r) :
    Calls Try.prog 4 #[.slice A0 l.length c0, .string s] w fun e w' => e = .returned (.bool r) ∧ Below w.heap.size w w' := by
  have hd30 : decide (30 < (l.length : Int)) = true := decide_eq_true (by omega)
  have hd30' : decide (30 < l.length) = true := decide_eq_true hl
  have HL := Aside0.mk hL
  clear hL
  go_enter Try.func4, Try.ntmps4
  go_wp2_with (go_at_call 6; (with_reducible refine (styluslaw09_lives.calls _ _ HL.out).mono ?_); rintro e w7 ⟨rfl, hb7⟩; have B7 := Aside0.mk hb7; clear hb7)
  go_ret
  exact ⟨rfl, B7.out⟩
theorem styluslaw09_FolderPlays.calls (k : Nat) (A0 : Option Addr) (c0 : Nat) (l : List S40) (s : ByteArray) (r : Bool) (w : World) (hr0 : Kd.C k40 w A0 l.length l) (hc0 : l.length ≤ c0) (h : styluslaw09_FolderPlays.f k l s = some r) :
    Calls Try.prog 4 #[.slice A0 l.length c0, .string s] w fun e w' => e = .returned (.bool r) ∧ Below w.heap.size w w' := by
  unfold styluslaw09_FolderPlays.f at h
  by_cases hl : 30 < l.length
  · rw [if_pos hl] at h
    exact plays_many A0 c0 l s r w hl h
  rw [if_neg hl] at h
  obtain ⟨⟨stE, qE⟩, e1, h⟩ := Option.bind_eq_some_iff.mp h
  obtain ⟨n1, e2, h⟩ := Option.bind_eq_some_iff.mp h
  obtain ⟨⟨p1, p2⟩, e3, h⟩ := Option.bind_eq_some_iff.mp h
  split at h
  case isFalse => cases h
  rename_i hc
  refine plays_run k A0 c0 l s r stE qE n1 w hr0 (Nat.le_of_not_lt hl) hc.1 e1 e2 ?_ h
  rw [e3]
  exact congrArg some (Prod.ext hc.2.1 hc.2.2)


/-- THE ONE PURE STATEMENT of styluslaw09_FolderPlays. -/
def styluslaw09_FolderPlays.Pure : Prop := ∀ (x0 : List (S40)) (x1 : ByteArray), (x0.length ≤ 140737488351232 ∧ ∀ y_x0 ∈ x0, B40 y_x0) → x1.size ≤ 140737488351232 → ∃ k, styluslaw09_FolderPlays.f k x0 x1 = some true
/-! ### styluslaw09_FolderNobody: function 5 -/
-- NEEDS stylus/styluslaw09.lives (*stylus/folder.Folder).Kept (*stylus/folder.Folder).Drop (*stylus/folder.Folder).Waiting
theorem nob_IDs (p : Value) (w : World) (h : Nob w p) :
    Calls Try.prog 23 #[p] w fun e w' => e = .returned (.slice none 0 0) ∧ w' = w := by
  go_enter Try.func23, Try.ntmps23
  go_wp2_with (go_at_call 24; (with_reducible refine (folder_Folder_none.calls p _ h).mono ?_); rintro e w2 ⟨rfl, rfl⟩)
  go_ret
  exact ⟨rfl, rfl⟩
theorem nob_Copy (w : World) :
    Calls Try.prog 15 #[.pointer none] w fun e w' => e = .returned (.pointer none) ∧ w' = w := by
  have huP := Try.underlying25
  go_enter Try.func15, Try.ntmps15
  go_wp2
  go_ret
  exact ⟨rfl, rfl⟩
def styluslaw09_FolderNobody.f (a0 : ByteArray) (a1 : Int) : Option Bool := styluslaw09_lives.f
set_option maxHeartbeats 8000000 in
set_option maxRecDepth 100000 in
theorem styluslaw09_FolderNobody.calls (a0 : ByteArray) (a1 : Int) (r : Bool) (w : World) (h : styluslaw09_FolderNobody.f a0 a1 = some r) :
    Calls Try.prog 5 #[.string a0, .int .i64 a1] w fun e w' => e = .returned (.bool r) ∧ Below w.heap.size w w' := by
  have huP := Try.underlying25
  have huF := Try.underlying52
  have HL := Aside0.mk (show styluslaw09_lives.f = some r from h)
  obtain rfl := Option.some.inj h
  clear h
  obtain ⟨W, hW⟩ : ∃ W, w.alloc (.cells #[.map none, .map none, .slice none 0 0, .bool false] 52) = W := ⟨_, rfl⟩
  have hb0 := heap_alloc_new w (.cells #[.map none, .map none, .slice none 0 0, .bool false] 52)
  have hB := below_alloc (Below.refl w.heap.size w) (.cells #[.map none, .map none, .slice none 0 0, .bool false] 52)
  rw [hW] at hb0 hB
  have N0 := Aside0.mk (show Nob W (.pointer none) from .inl rfl)
  have N1 := Aside0.mk (show Nob W (.pointer (some ⟨w.heap.size, 0, none⟩)) from .inr ⟨_, rfl, (blk_cell hb0 3).trans rfl⟩)
  have HB := Aside0.mk hB
  clear hb0 hB
  go_enter Try.func5, Try.ntmps5
  go_wp2_with (first
    | (go_at_call 9; (try rw [hW]); (with_reducible refine (folder_Folder_Sync.nob (.pointer none) _ N0.out).mono ?_); rintro e w2 ⟨⟨v2, rfl⟩, rfl⟩)
    | (go_at_call 9; (with_reducible refine (folder_Folder_Sync.nob (.pointer (some ⟨w.heap.size, 0, none⟩)) _ N1.out).mono ?_); rintro e w2 ⟨⟨v3, rfl⟩, rfl⟩)
    | (go_at_call 12; (with_reducible refine (folder_Folder_Find.nob _ _ _ N0.out).mono ?_); rintro e w2 ⟨rfl, rfl⟩)
    | (go_at_call 8; (with_reducible refine (folder_Folder_Put.nob _ _ _ _ N0.out).mono ?_); rintro e w2 ⟨rfl, rfl⟩)
    | (go_at_call 8; (with_reducible refine (folder_Folder_Put.nob _ _ _ _ N1.out).mono ?_); rintro e w2 ⟨rfl, rfl⟩)
    | (go_at_call 20; (with_reducible refine (folder_Folder_Drop.nob _ _ _ N0.out).mono ?_); rintro e w2 ⟨rfl, rfl⟩)
    | (go_at_call 10; (with_reducible refine (folder_Folder_Move.nob _ _ _ _ N1.out).mono ?_); rintro e w2 ⟨rfl, rfl⟩)
    | (go_at_call 21; (with_reducible refine (folder_Folder_Now.nob _ _ N0.out).mono ?_); rintro e w2 ⟨rfl, rfl⟩)
    | (go_at_call 22; (with_reducible refine (folder_Folder_Kept.nob _ _ N1.out).mono ?_); rintro e w2 ⟨rfl, rfl⟩)
    | (go_at_call 23; (with_reducible refine (nob_IDs _ _ N1.out).mono ?_); rintro e w2 ⟨rfl, rfl⟩)
    | (go_at_call 13; (with_reducible refine (folder_Folder_Waiting.nob _ _ N0.out).mono ?_); rintro e w2 ⟨rfl, rfl⟩)
    | (go_at_call 11; (with_reducible refine (folder_Folder_Crash.nob _ _ _ N1.out).mono ?_); rintro e w2 ⟨rfl, rfl⟩)
    | (go_at_call 15; (with_reducible refine (nob_Copy _).mono ?_); rintro e w2 ⟨rfl, rfl⟩)
    | (go_at_call 6; (with_reducible refine (styluslaw09_lives.calls _ _ HL.out).mono ?_); rintro e w9 ⟨rfl, hb9⟩; have HB9 := Aside0.mk (below_step HB.out hb9); clear hb9))
  go_ret
  exact ⟨rfl, HB9.out⟩


/-- THE ONE PURE STATEMENT of styluslaw09_FolderNobody. -/
def styluslaw09_FolderNobody.Pure : Prop := ∀ (x0 : ByteArray) (x1 : Int), x0.size ≤ 140737488351232 → (Lit.int .i64 x1).wf = true → styluslaw09_FolderNobody.f x0 x1 = some true
end Go.Proofs.Ytdlnbchgimmmoaa.P
