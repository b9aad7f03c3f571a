-- Laid by a program of this session (wip/tools/fork_print.py over the kit's print) out of Lean's print of the translation. Lean checks it.
import Derived.Test.YtdlnbchgimmmoaaPx0
import Derived.Test.YtdlnbchgimmmoaaPx1
import Derived.Test.YtdlnbchgimmmoaaPx2
import Derived.Test.YtdlnbchgimmmoaaPx3
import Derived.Test.YtdlnbchgimmmoaaPx4
namespace Go.Proofs.Ytdlnbchgimmmoaa.P
open Go.RowKit Go.Proofs.YtdlnbchgimmmoaaW.PrintWords Go.Proofs.YtdlnbchgimmmoaaW.PrintLast Go.Proofs.YtdlnbchgimmmoaaW.PrintMore
attribute [local go_sem] max2_int min2_int max_two min_two max_three min_three max_four min_four   -- for this text's walks alone
set_option linter.unusedVariables false
set_option linter.unusedSimpArgs false

/-! ### styluslaw09_step: function 16 -/
-- NEEDS stylus/stylusref09.Put stylus/stylusref09.Drop stylus/stylusref09.Move stylus/stylusref09.Sync stylus/stylusref09.Crash (*stylus/folder.Folder).Put (*stylus/folder.Folder).Drop (*stylus/folder.Folder).Move (*stylus/folder.Folder).Sync (*stylus/folder.Folder).Crash
abbrev RL := List (List S74)
abbrev VL (W : World) (P : Nat → Prop) (v : Value) (q : RL) : Prop := Kd.V (Kd.slice 74 k74) 45 W W.heap.size P v q
/-- A folder, and the page's; they share no block. -/
def Both (w0 W : World) (G : Nat → Prop) (b : Nat) (st : FoS) (v : Value) (q : RL) : Prop := ∃ S P, st.at W S b ∧ VL W P v q ∧ (∀ k, S k → ¬ P k ∧ w0.heap.size ≤ k ∧ k < W.heap.size ∧ ¬ G k) ∧ (∀ k, P k → k < W.heap.size ∧ ¬ G k)
theorem at_tight {W : World} {S : Nat → Prop} {b : Nat} {q : FoS} (h : q.at W S b) : q.at W (fun k => S k ∧ k < W.heap.size) b := by
  obtain ⟨kb, nb, A, cap, hb, ⟨Sb, Skb, Snb⟩, hne, hk0, hn, hR, hok⟩ := h
  exact ⟨kb, nb, A, cap, hb, ⟨⟨Sb, blk_lt hb⟩, ⟨Skb, hk0.lt⟩, ⟨Snb, hn.lt⟩⟩, hne, hk0, hn, Kd.R_mono (Kd.R_bound hR) (fun k hk => ⟨hk.1, hk.2.2.1⟩), hok⟩
theorem VL_any {W : World} {base : Nat} {P : Nat → Prop} {v : Value} {q : RL} (h : Kd.V (Kd.slice 74 k74) 45 W base P v q) : VL W P v q := h
theorem Both.mk_ {w0 W : World} {G : Nat → Prop} {b : Nat} {st : FoS} {v : Value} {q : RL} {S P : Nat → Prop} (h : st.at W S b) (hV : VL W P v q) (hd : ∀ k, S k → k < W.heap.size → ¬ (P k ∧ k < W.heap.size)) (h0 : ∀ k, S k → w0.heap.size ≤ k) (hg : ∀ k, S k → ¬ G k) (hp : ∀ k, P k → ¬ G k) : Both w0 W G b st v q :=
  ⟨_, _, at_tight h, Kd.V_bound hV, fun k hk => ⟨hd k hk.1 hk.2, h0 k hk.1, hk.2, hg k hk.1⟩, fun k hk => ⟨hk.2, hp k hk.1⟩⟩
theorem Both.below {w0 W W' : World} {G : Nat → Prop} {b : Nat} {st : FoS} {v : Value} {q : RL} (h : Both w0 W G b st v q) (hb : Below W.heap.size W W') : Both w0 W' G b st v q := by
  obtain ⟨S, P, h1, h2, h3, h4⟩ := h
  exact ⟨S, P, Fo.below h1 hb, VL_any (Kd.V_below h2 hb), fun k hk => ⟨(h3 k hk).1, (h3 k hk).2.1, Nat.lt_of_lt_of_le (h3 k hk).2.2.1 hb.size, (h3 k hk).2.2.2⟩, fun k hk => ⟨Nat.lt_of_lt_of_le (h4 k hk).1 hb.size, (h4 k hk).2⟩⟩
theorem drop_at (q : FoS) (S : Nat → Prop) (b : Nat) (s : ByteArray) (hs : s.size ≤ maxLen) (hf : q.few) (w : World) (h : q.at w S b) :
    Calls Try.prog 20 #[.pointer (some ⟨b, 0, none⟩), .string s] w fun e w' => e = .returned (.bool (nmHas q.n s.data.toList)) ∧ (q.drop s).at w' (fun k => S k ∨ w.heap.size ≤ k) b ∧ Kep w w' S :=
  folder_Folder_Drop.calls S b q.k q.n q.w s hs (Nat.le_trans hf.2.1 (by decide)) (Nat.le_trans hf.2.2 (by decide)) w h
/-- What a call comes to: the folder's state, the page's lists; none: they part. -/
def stepOf (k : Nat) (st : FoS) (q : RL) (kd n : Int) (s t : ByteArray) : Option (FoS × RL) :=
  if kd = 0 then (stylusref09_Put.f k q s n).bind fun r => if r.2 = !nmHas st.n s.data.toList then some (st.put s n, r.1) else none
  else if kd = 1 then (stylusref09_Drop.f k q s).bind fun r => if r.2 = nmHas st.n s.data.toList then some (st.drop s, r.1) else none
  else if kd = 2 then (stylusref09_Move.f k q s t).bind fun r => if r.2 = nmHas st.n s.data.toList then some (st.move s t, r.1) else none
  else if kd = 3 then (stylusref09_Sync.f q).bind fun r => some (st.sync, r)
  else if kd = 4 then (stylusref09_Crash.f q n).bind fun r => if r.2 = crI n st.w.length then some (st.crash n, r.1) else none
  else some (st, q)
abbrev fitOp (kd n : Int) (s t : ByteArray) : Prop := s.size ≤ maxLen ∧ t.size ≤ maxLen ∧ (Lit.int .i64 n).wf = true
theorem fdone {w0 w w5 : World} {S P : Nat → Prop} {G : Nat → Prop} {b : Nat} {st' : FoS} {v : Value} {q' : RL} {g m m1 : Nat} (hf : st'.at w5 (fun k => S k ∨ m ≤ k) b) (hV : VL w5 (fun k => (P k ∨ m1 ≤ k) ∧ k < m) v q')
    (hS : ∀ k, S k → ¬ P k ∧ w0.heap.size ≤ k ∧ k < w.heap.size ∧ ¬ G k) (hP : ∀ k, P k → k < w.heap.size ∧ ¬ G k) (hgp : ∀ k, G k → k < w.heap.size) (hg : w.heap.size ≤ g) (hg1 : g < m1) (hm : m1 ≤ m) (h0 : w0.heap.size ≤ w.heap.size) (u : Value) : Both w0 (w5.setCell ⟨g, 0, none⟩ u) G b st' v q' := by
  have hK := (Kep.refl w5 (fun k => k = g)).setCell (p := ⟨g, 0, none⟩) (.inl rfl) u
  refine Both.mk_ (S := fun k => S k ∨ m ≤ k) (P := fun k => (P k ∨ m1 ≤ k) ∧ k < m) (Fo.kept hf hK (fun k hk e => ?_)) (VL_any (Kd.V_far hV (p := ⟨g, 0, none⟩) (fun k hk e => ?_) u)) (fun k hk _ hp => ?_) (fun k hk => ?_) (fun k hk => ?_) (fun k hk => ?_)
  · subst e
    rcases hk with hk | hk
    · have := (hS _ hk).2.2.1; omega
    · omega
  · have e : k = g := e
    subst e
    rcases hk.1 with h | h
    · have := (hP _ h).1; omega
    · omega
  · rcases hk with hk | hk
    · rcases hp.1.1 with h | h
      · exact (hS k hk).1 h
      · have := (hS k hk).2.2.1; omega
    · have := hp.1.2; omega
  · rcases hk with hk | hk
    · exact (hS k hk).2.1
    · omega
  · rcases hk with hk | hk
    · exact (hS k hk).2.2.2
    · exact fun hG => by have := hgp k hG; omega
  · rcases hk.1 with h | h
    · exact (hP k h).2
    · exact fun hG => by have := hgp k hG; omega
theorem fkeep {w0 w w2 w5 : World} {S : Nat → Prop} {G : Nat → Prop} {g : Nat} {o : Obj} (hS : ∀ k, S k → w0.heap.size ≤ k ∧ k < w.heap.size ∧ ¬ G k) (hg : w.heap.size ≤ g) (hk : Kep w2 w5 S) (h : w2.heap[g]? = some o) : w5.heap[g]? = some o :=
  blk_kept h hk.k (fun hs => by have := (hS g hs).2.1; omega)
theorem fdone3 {w0 w W1 w5 w6 : World} {S P : Nat → Prop} {G : Nat → Prop} {b : Nat} {st' : FoS} {v : Value} {q' : RL} (hf : st'.at w6 (fun k => (S k ∨ W1.heap.size ≤ k) ∧ k < w5.heap.size) b) (hV : VL w6 (fun k => P k ∨ w5.heap.size ≤ k) v q')
    (hS : ∀ k, S k → ¬ P k ∧ w0.heap.size ≤ k ∧ k < w.heap.size ∧ ¬ G k) (hP : ∀ k, P k → k < w.heap.size ∧ ¬ G k) (hgp : ∀ k, G k → k < w.heap.size) (hm : W1.heap.size = w.heap.size + 1 + 1 + 1) (h5 : W1.heap.size ≤ w5.heap.size) (h0 : w0.heap.size ≤ w.heap.size) (u : Value) : Both w0 (w6.setCell ⟨w.heap.size + 1 + 1, 0, none⟩ u) G b st' v q' := by
  have hK := (Kep.refl w6 (fun k => k = w.heap.size + 1 + 1)).setCell (p := ⟨w.heap.size + 1 + 1, 0, none⟩) (.inl rfl) u
  refine Both.mk_ (S := fun k => (S k ∨ W1.heap.size ≤ k) ∧ k < w5.heap.size) (P := fun k => P k ∨ w5.heap.size ≤ k) (Fo.kept hf hK (fun k hk e => ?_)) (VL_any (Kd.V_far hV (p := ⟨w.heap.size + 1 + 1, 0, none⟩) (fun k hk e => ?_) u)) (fun k hk _ hp => ?_) (fun k hk => ?_) (fun k hk => ?_) (fun k hk => ?_)
  · subst e
    rcases hk.1 with hk | hk
    · have := (hS _ hk).2.2.1; omega
    · omega
  · have e : k = w.heap.size + 1 + 1 := e
    subst e
    rcases hk with h | h
    · have := (hP _ h).1; omega
    · omega
  · rcases hk.1 with hs | hs
    · rcases hp.1 with h | h
      · exact (hS k hs).1 h
      · have := hk.2; omega
    · rcases hp.1 with h | h
      · have := (hP _ h).1; omega
      · have := hk.2; omega
  · rcases hk.1 with hk | hk
    · exact (hS k hk).2.1
    · omega
  · rcases hk.1 with hk | hk
    · exact (hS k hk).2.2.2
    · exact fun hG => by have := hgp k hG; omega
  · rcases hk with h | h
    · exact (hP k h).2
    · exact fun hG => by have := hgp k hG; omega
theorem fapart {w0 w W1 : World} {S P : Nat → Prop} {G : Nat → Prop} (hS : ∀ k, S k → ¬ P k ∧ w0.heap.size ≤ k ∧ k < w.heap.size ∧ ¬ G k) (hm : W1.heap.size = w.heap.size + 1 + 1 + 1) {k m : Nat} (hk : (P k ∨ W1.heap.size ≤ k) ∧ k < m) (hs : S k) : False := by
  have h1 := hS k hs
  rcases hk.1 with h | h
  · exact h1.1 h
  · omega
set_option maxHeartbeats 8000000 in
set_option maxRecDepth 100000 in
theorem fstep0 (k : Nat) (w0 : World) (G : Nat → Prop) (b : Nat) (st : FoS) (q q' : RL) (A : Option Addr) (c : Nat) (n : Int) (s t : ByteArray) (hfit : fitOp 0 n s t) (hfew : st.few) (hq : stylusref09_Put.f k q s n = some (q', !nmHas st.n s.data.toList)) (w : World) (hB : Both w0 w G b st (.slice A q.length c) q) (hgp : ∀ k, G k → k < w.heap.size) (hw : Below w0.heap.size w0 w) :
    Calls Try.prog 16 #[.pointer (some ⟨b, 0, none⟩), .agg #[.slice A q.length c], .agg #[.int .i64 0, .int .i64 n, .string s, .string t]] w fun e w' => ∃ A' c', e = .returned (.tuple #[.agg #[.slice A' q'.length c'], .bool true]) ∧ Both w0 w' G b (st.put s n) (.slice A' q'.length c') q' ∧ Below w0.heap.size w0 w' ∧ Kep w w' (fun k => ¬ G k) := by
  have huF := Try.underlying37
  have huO := Try.underlying40
  have huP := Try.underlying25
  obtain ⟨S, P, hF, hV, hS, hP⟩ := hB
  have HS := Aside0.mk hS
  have HP := Aside0.mk hP
  have HS1 := Aside0.mk (fun k hk => (hS k hk).2)
  have H0 := Aside0.mk hw.size
  have HFEW := Aside0.mk hfew
  have HFIT := Aside0.mk hfit
  have HQ := Aside0.mk hq
  have b1 := below_alloc (below_alloc (below_alloc (Below.refl w.heap.size w) (.cells #[.slice A q.length c] 37)) (.cells #[.int .i64 0, .int .i64 n, .string s, .string t] 40)) (.cells #[.slice none 0 0] 37)
  have K4 := Aside0.mk (blk_alloc (blk_alloc (heap_alloc_new w (.cells #[.slice A q.length c] 37)) (.cells #[.int .i64 0, .int .i64 n, .string s, .string t] 40)) (.cells #[.slice none 0 0] 37))
  have k5 := blk_alloc (heap_alloc_new (w.alloc (.cells #[.slice A q.length c] 37)) (.cells #[.int .i64 0, .int .i64 n, .string s, .string t] 40)) (.cells #[.slice none 0 0] 37)
  have k6 := heap_alloc_new ((w.alloc (.cells #[.slice A q.length c] 37)).alloc (.cells #[.int .i64 0, .int .i64 n, .string s, .string t] 40)) (.cells #[.slice none 0 0] 37)
  rw [World.size_alloc] at k5
  rw [World.size_alloc, World.size_alloc] at k6
  have K5 := Aside0.mk k5
  have K6 := Aside0.mk k6
  have HF := Aside0.mk (Fo.below hF b1)
  have HV := Aside0.mk (Kd.V_below hV b1)
  have HB := Aside0.mk (below_step hw b1)
  have HG := Aside0.mk (Kep.of_below b1 (fun k => ¬ G k))
  have HGP := Aside0.mk hgp
  clear hS hP hfew hfit hq b1 k5 k6 hF hV hw hgp
  have hm1 : (((w.alloc (.cells #[.slice A q.length c] 37)).alloc (.cells #[.int .i64 0, .int .i64 n, .string s, .string t] 40)).alloc (.cells #[.slice none 0 0] 37)).heap.size = w.heap.size + 1 + 1 + 1 := by simp
  have HM1 := Aside0.mk hm1
  clear hm1
  go_enter Try.func16, Try.ntmps16
  go_upto_region 4 with (go_at_call 29; (with_reducible refine (stylusref09_Put.calls k P A c q s n q' (!nmHas st.n s.data.toList) _ HV.out HQ.out).mono ?_); rintro e w2 ⟨v26, rfl, hV2, hb2⟩; obtain ⟨A2, c2, rfl⟩ := Kd.V_slice hV2; have HV2 := Aside0.mk (VL_any hV2); have KF := Aside0.mk (Fo.below HF.out hb2); have K5' := Aside0.mk (blk_below K5.out hb2); have K6' := Aside0.mk (blk_below K6.out hb2); have HB' := Aside0.mk (below_step HB.out hb2); have HG' := Aside0.mk (HG.out.below hb2); have HLE := Aside0.mk hb2.size; clear hV2 hb2 HV HF HB HG K4 K5 K6)
  have K5 := Aside0.mk (blk_alloc K5'.out (.cells #[.slice A2 q'.length c2] 37))
  have K6 := Aside0.mk (blk_alloc K6'.out (.cells #[.slice A2 q'.length c2] 37))
  have K8 := Aside0.mk (heap_alloc_new w2 (.cells #[.slice A2 q'.length c2] 37))
  have HF := Aside0.mk (Fo.below KF.out (below_alloc (Below.refl w2.heap.size w2) (.cells #[.slice A2 q'.length c2] 37)))
  have HV := Aside0.mk (Kd.V_bound (Kd.V_drew (Kd.V_alloc HV2.out (.cells #[.slice A2 q'.length c2] 37))))
  have HB := Aside0.mk (below_drew (below_alloc HB'.out (.cells #[.slice A2 q'.length c2] 37)))
  have HG := Aside0.mk (HG'.out.alloc (.cells #[.slice A2 q'.length c2] 37)).drew
  have HM2 := Aside0.mk (show w.heap.size + 1 + 1 + 1 ≤ (w2.alloc (.cells #[.slice A2 q'.length c2] 37)).drew.heap.size by have h1 := HLE.out; rw [HM1.out] at h1; simp; omega)
  clear K5' K6' KF HV2 HB' HG' HLE
  have HW2 := Aside0.mk (show w.heap.size ≤ w2.heap.size by have h1 := HM2.out; simp at h1; omega)
  have H0_ := Aside0.mk (show w0.heap.size ≤ (w2.alloc (.cells #[.slice A2 q'.length c2] 37)).drew.heap.size from Nat.le_trans H0.out (Nat.le_trans (by omega) HM2.out))
  refine start_ (n := 11) (S := fun w' => w'.cell? ⟨w2.heap.size, 0, none⟩ = some (.slice A2 q'.length c2) ∧ w'.cell? ⟨w.heap.size + 1, 1, none⟩ = some (.int .i64 n) ∧ w'.cell? ⟨w.heap.size + 1, 2, none⟩ = some (.string s)) (ds := [9]) #[false, false, false, false, false, false, false, false, false, false, false] (by kernel_rfl) rfl rfl ⟨(blk_cell (blk_drew K8.out) 0).trans rfl, (blk_cell (blk_drew K5.out) 1).trans rfl, (blk_cell (blk_drew K5.out) 2).trans rfl⟩ (fun hHeld => ?_)
  refine pure_ (i := 1) (N := some 30) (v := ?_) (a' := ?_) #[false, true, false, false, false, false, false, false, false, false, false] rfl rfl (by kernel_rfl) (fun _ _ _ h => h) (Or.inl ⟨by rfl, ?_⟩) ?_ ?_
  rotate_left
  · intro w'
    go_simp
    with_reducible rfl
  rotate_left
  · simp only [Act.put, List.setIfInBounds_toArray, List.set_cons_zero, List.set_cons_succ, i64_w, i32_w]
    rfl
  refine pure_ (i := 2) (N := some 31) (v := ?_) (a' := ?_) #[false, true, true, false, false, false, false, false, false, false, false] rfl rfl (by kernel_rfl) (fun _ _ _ h => h) (Or.inl ⟨by rfl, ?_⟩) ?_ ?_
  rotate_left
  · intro w'
    go_simp
    with_reducible rfl
  rotate_left
  · simp only [Act.put, List.setIfInBounds_toArray, List.set_cons_zero, List.set_cons_succ, i64_w, i32_w]
    rfl
  refine pure_ (i := 4) (N := some 33) (v := ?_) (a' := ?_) #[false, true, true, false, true, false, false, false, false, false, false] rfl rfl (by kernel_rfl) (fun _ _ _ h => h) (Or.inl ⟨by rfl, ?_⟩) ?_ ?_
  rotate_left
  · intro w'
    go_simp
    with_reducible rfl
  rotate_left
  · simp only [Act.put, List.setIfInBounds_toArray, List.set_cons_zero, List.set_cons_succ, i64_w, i32_w]
    rfl
  refine pure_ (i := 7) (N := some 36) (v := ?_) (a' := ?_) #[false, true, true, false, true, false, false, true, false, false, false] rfl rfl (by kernel_rfl) (fun _ _ _ h => h) (Or.inl ⟨by rfl, ?_⟩) ?_ ?_
  rotate_left
  · intro w'
    go_simp
    with_reducible rfl
  rotate_left
  · simp only [Act.put, List.setIfInBounds_toArray, List.set_cons_zero, List.set_cons_succ, i64_w, i32_w]
    rfl
  refine take_ (i := 0) (N := some 29) (v := ?_) (a' := ?_) #[true, true, true, false, true, false, false, true, false, false, false] rfl rfl (by kernel_rfl) (fun _ _ _ h => h) (Or.inl ⟨by rfl, ?_⟩) hHeld ?_ ?_
  rotate_left
  · rintro w' ⟨s0, s1, s2⟩
    go_simp
    with_reducible rfl
  rotate_left
  · simp only [Act.put, List.setIfInBounds_toArray, List.set_cons_zero, List.set_cons_succ, i64_w, i32_w]
    rfl
  refine take_ (i := 3) (N := some 32) (v := ?_) (a' := ?_) #[true, true, true, true, true, false, false, true, false, false, false] rfl rfl (by kernel_rfl) (fun _ _ _ h => h) (Or.inl ⟨by rfl, ?_⟩) hHeld ?_ ?_
  rotate_left
  · rintro w' ⟨s0, s1, s2⟩
    go_simp
    with_reducible rfl
  rotate_left
  · simp only [Act.put, List.setIfInBounds_toArray, List.set_cons_zero, List.set_cons_succ, i64_w, i32_w]
    rfl
  refine take_ (i := 5) (N := some 34) (v := ?_) (a' := ?_) #[true, true, true, true, true, true, false, true, false, false, false] rfl rfl (by kernel_rfl) (fun _ _ _ h => h) (Or.inl ⟨by rfl, ?_⟩) hHeld ?_ ?_
  rotate_left
  · rintro w' ⟨s0, s1, s2⟩
    go_simp
    with_reducible rfl
  rotate_left
  · simp only [Act.put, List.setIfInBounds_toArray, List.set_cons_zero, List.set_cons_succ, i64_w, i32_w]
    rfl
  refine one_ (i := 6) (N := some 35) #[true, true, true, true, true, true, true, true, false, false, false] rfl rfl (by kernel_rfl) (by decide) (fun K hK => ?_)
  refine goes_ Try.func8 (by kernel_rfl) rfl #[.pointer (some ⟨b, 0, none⟩), .string s, .int .i64 n] (by rfl) rfl rfl (by (try simp only [List.map_toArray, List.map_cons, List.map_nil]); first | done | rfl) ?_
  with_reducible refine (put_at st S b s n HFIT.out.1 HFIT.out.2.2 HFEW.out _ (Fo.below HF.out (below_drew (Below.refl _ _)))).mono ?_
  rintro e w5 ⟨rfl, hf5, hk5⟩
  refine ⟨_, rfl, ?_⟩
  have K5 := Aside0.mk (fkeep HS1.out (Nat.le_succ _) hk5 (blk_drew K5.out))
  have K6 := Aside0.mk (fkeep HS1.out (Nat.le_trans (Nat.le_succ _) (Nat.le_succ _)) hk5 (blk_drew K6.out))
  have K8 := Aside0.mk (fkeep HS1.out HW2.out hk5 (blk_drew K8.out))
  have HF5 := Aside0.mk hf5
  have HV5 := Aside0.mk (Kd.V_kept HV.out hk5.k (fun k hk hs => fapart HS.out HM1.out hk hs))
  have HG5 := Aside0.mk (HG.out.then_ hk5 (fun k hk => .inl (HS.out k hk).2.2.2))
  have HB5 := Aside0.mk (HB.out.trans (hk5.out H0_.out (fun k hk => (HS.out k hk).2.1)))
  clear hf5 hk5
  refine hK.out _ _ ⟨(blk_cell (K8.out) 0).trans rfl, (blk_cell (K5.out) 1).trans rfl, (blk_cell (K5.out) 2).trans rfl⟩ (fun hHeld => ?_)
  clear hK K
  refine norm_ (a' := ?_) ?_ ?_
  rotate_left
  · show Act.put _ (some 35) _ = _
    simp only [Act.put, List.setIfInBounds_toArray, List.set_cons_zero, List.set_cons_succ, i64_w, i32_w]
    rfl
  refine pure_ (i := 8) (N := some 37) (v := ?_) (a' := ?_) #[true, true, true, true, true, true, true, true, true, false, false] rfl rfl (by kernel_rfl) (fun _ _ _ h => h) (Or.inl ⟨by rfl, ?_⟩) ?_ ?_
  rotate_left
  · intro w'
    go_simp
    with_reducible rfl
  rotate_left
  · simp only [Act.put, List.setIfInBounds_toArray, List.set_cons_zero, List.set_cons_succ, i64_w, i32_w]
    rfl
  refine last_ (i := 9) (N := none) #[true, true, true, true, true, true, true, true, true, true, false] rfl rfl (by kernel_rfl) (by decide) (fun K hK => ?_)
  have hs_ := (blk_cell K6.out 0).trans rfl
  have hf_ := blk_frozen K6.out 0
  refine skip_ (w1 := ?_) (by rfl) rfl ?_ ?_
  rotate_left
  · go_simp
    rfl
  refine hK.out _ _ ?_
  clear hK K
  refine pure_ (i := 10) (N := some 7) (v := ?_) (a' := ?_) #[true, true, true, true, true, true, true, true, true, true, true] rfl rfl (by kernel_rfl) (fun _ _ _ h => h) (Or.inl ⟨by rfl, ?_⟩) ?_ ?_
  rotate_left
  · intro w'
    go_simp
    with_reducible rfl
  rotate_left
  · simp only [Act.put, List.setIfInBounds_toArray, List.set_cons_zero, List.set_cons_succ, i64_w, i32_w]
    rfl
  refine done_ (by kernel_rfl) ?_
  go_wp2_with fail
  refine bodyPost_ret (results_ct rfl _ _ (w.heap.size + 1 + 1) 37 #[.slice A2 q'.length c2] (0, 0) _ rfl (blk_put (cs' := #[.slice A2 q'.length c2]) K6.out 0 _ rfl) Try.underlying37 rfl (by kernel_rfl)) rfl ?_
  exact ⟨_, _, rfl, fdone (m1 := w.heap.size + 1 + 1 + 1) HF5.out (VL_any (Kd.V_mono HV5.out (fun k hk => ⟨hk.1.imp id (fun h => by rw [← HM1.out]; exact h), hk.2⟩))) HS.out HP.out HGP.out (by omega) (by omega) HM2.out H0.out _, HB5.out.setCell (p := ⟨w.heap.size + 1 + 1, 0, none⟩) (Nat.le_trans H0.out (by show w.heap.size ≤ w.heap.size + 1 + 1; omega)) _, HG5.out.setCell (p := ⟨w.heap.size + 1 + 1, 0, none⟩) (.inr (by show w.heap.size ≤ w.heap.size + 1 + 1; omega)) _⟩
set_option maxHeartbeats 8000000 in
set_option maxRecDepth 100000 in
theorem fstep1 (k : Nat) (w0 : World) (G : Nat → Prop) (b : Nat) (st : FoS) (q q' : RL) (A : Option Addr) (c : Nat) (n : Int) (s t : ByteArray) (hfit : fitOp 1 n s t) (hfew : st.few) (hq : stylusref09_Drop.f k q s = some (q', nmHas st.n s.data.toList)) (w : World) (hB : Both w0 w G b st (.slice A q.length c) q) (hgp : ∀ k, G k → k < w.heap.size) (hw : Below w0.heap.size w0 w) :
    Calls Try.prog 16 #[.pointer (some ⟨b, 0, none⟩), .agg #[.slice A q.length c], .agg #[.int .i64 1, .int .i64 n, .string s, .string t]] w fun e w' => ∃ A' c', e = .returned (.tuple #[.agg #[.slice A' q'.length c'], .bool true]) ∧ Both w0 w' G b (st.drop s) (.slice A' q'.length c') q' ∧ Below w0.heap.size w0 w' ∧ Kep w w' (fun k => ¬ G k) := by
  have huF := Try.underlying37
  have huO := Try.underlying40
  have huP := Try.underlying25
  obtain ⟨S, P, hF, hV, hS, hP⟩ := hB
  have HS := Aside0.mk hS
  have HP := Aside0.mk hP
  have HS1 := Aside0.mk (fun k hk => (hS k hk).2)
  have H0 := Aside0.mk hw.size
  have HFEW := Aside0.mk hfew
  have HFIT := Aside0.mk hfit
  have HQ := Aside0.mk hq
  have b1 := below_alloc (below_alloc (below_alloc (Below.refl w.heap.size w) (.cells #[.slice A q.length c] 37)) (.cells #[.int .i64 1, .int .i64 n, .string s, .string t] 40)) (.cells #[.slice none 0 0] 37)
  have K4 := Aside0.mk (blk_alloc (blk_alloc (heap_alloc_new w (.cells #[.slice A q.length c] 37)) (.cells #[.int .i64 1, .int .i64 n, .string s, .string t] 40)) (.cells #[.slice none 0 0] 37))
  have k5 := blk_alloc (heap_alloc_new (w.alloc (.cells #[.slice A q.length c] 37)) (.cells #[.int .i64 1, .int .i64 n, .string s, .string t] 40)) (.cells #[.slice none 0 0] 37)
  have k6 := heap_alloc_new ((w.alloc (.cells #[.slice A q.length c] 37)).alloc (.cells #[.int .i64 1, .int .i64 n, .string s, .string t] 40)) (.cells #[.slice none 0 0] 37)
  rw [World.size_alloc] at k5
  rw [World.size_alloc, World.size_alloc] at k6
  have K5 := Aside0.mk k5
  have K6 := Aside0.mk k6
  have HF := Aside0.mk (Fo.below hF b1)
  have HV := Aside0.mk (Kd.V_below hV b1)
  have HB := Aside0.mk (below_step hw b1)
  have HG := Aside0.mk (Kep.of_below b1 (fun k => ¬ G k))
  have HGP := Aside0.mk hgp
  clear hS hP hfew hfit hq b1 k5 k6 hF hV hw hgp
  have hm1 : (((w.alloc (.cells #[.slice A q.length c] 37)).alloc (.cells #[.int .i64 1, .int .i64 n, .string s, .string t] 40)).alloc (.cells #[.slice none 0 0] 37)).heap.size = w.heap.size + 1 + 1 + 1 := by simp
  have HM1 := Aside0.mk hm1
  clear hm1
  go_enter Try.func16, Try.ntmps16
  go_upto_region 7 with (go_at_call 30; (with_reducible refine (stylusref09_Drop.calls k P A c q s q' (nmHas st.n s.data.toList) _ HV.out HQ.out).mono ?_); rintro e w2 ⟨v26, rfl, hV2, hb2⟩; obtain ⟨A2, c2, rfl⟩ := Kd.V_slice hV2; have HV2 := Aside0.mk (VL_any hV2); have KF := Aside0.mk (Fo.below HF.out hb2); have K5' := Aside0.mk (blk_below K5.out hb2); have K6' := Aside0.mk (blk_below K6.out hb2); have HB' := Aside0.mk (below_step HB.out hb2); have HG' := Aside0.mk (HG.out.below hb2); have HLE := Aside0.mk hb2.size; clear hV2 hb2 HV HF HB HG K4 K5 K6)
  have K5 := Aside0.mk (blk_alloc K5'.out (.cells #[.slice A2 q'.length c2] 37))
  have K6 := Aside0.mk (blk_alloc K6'.out (.cells #[.slice A2 q'.length c2] 37))
  have K8 := Aside0.mk (heap_alloc_new w2 (.cells #[.slice A2 q'.length c2] 37))
  have HF := Aside0.mk (Fo.below KF.out (below_alloc (Below.refl w2.heap.size w2) (.cells #[.slice A2 q'.length c2] 37)))
  have HV := Aside0.mk (Kd.V_bound (Kd.V_drew (Kd.V_alloc HV2.out (.cells #[.slice A2 q'.length c2] 37))))
  have HB := Aside0.mk (below_drew (below_alloc HB'.out (.cells #[.slice A2 q'.length c2] 37)))
  have HG := Aside0.mk (HG'.out.alloc (.cells #[.slice A2 q'.length c2] 37)).drew
  have HM2 := Aside0.mk (show w.heap.size + 1 + 1 + 1 ≤ (w2.alloc (.cells #[.slice A2 q'.length c2] 37)).drew.heap.size by have h1 := HLE.out; rw [HM1.out] at h1; simp; omega)
  clear K5' K6' KF HV2 HB' HG' HLE
  have HW2 := Aside0.mk (show w.heap.size ≤ w2.heap.size by have h1 := HM2.out; simp at h1; omega)
  have H0_ := Aside0.mk (show w0.heap.size ≤ (w2.alloc (.cells #[.slice A2 q'.length c2] 37)).drew.heap.size from Nat.le_trans H0.out (Nat.le_trans (by omega) HM2.out))
  refine start_ (n := 9) (S := fun w' => w'.cell? ⟨w2.heap.size, 0, none⟩ = some (.slice A2 q'.length c2) ∧ w'.cell? ⟨w.heap.size + 1, 2, none⟩ = some (.string s)) (ds := [7]) #[false, false, false, false, false, false, false, false, false] (by kernel_rfl) rfl rfl ⟨(blk_cell (blk_drew K8.out) 0).trans rfl, (blk_cell (blk_drew K5.out) 2).trans rfl⟩ (fun hHeld => ?_)
  refine pure_ (i := 1) (N := some 48) (v := ?_) (a' := ?_) #[false, true, false, false, false, false, false, false, false] rfl rfl (by kernel_rfl) (fun _ _ _ h => h) (Or.inl ⟨by rfl, ?_⟩) ?_ ?_
  rotate_left
  · intro w'
    go_simp
    with_reducible rfl
  rotate_left
  · simp only [Act.put, List.setIfInBounds_toArray, List.set_cons_zero, List.set_cons_succ, i64_w, i32_w]
    rfl
  refine pure_ (i := 2) (N := some 49) (v := ?_) (a' := ?_) #[false, true, true, false, false, false, false, false, false] rfl rfl (by kernel_rfl) (fun _ _ _ h => h) (Or.inl ⟨by rfl, ?_⟩) ?_ ?_
  rotate_left
  · intro w'
    go_simp
    with_reducible rfl
  rotate_left
  · simp only [Act.put, List.setIfInBounds_toArray, List.set_cons_zero, List.set_cons_succ, i64_w, i32_w]
    rfl
  refine pure_ (i := 5) (N := some 52) (v := ?_) (a' := ?_) #[false, true, true, false, false, true, false, false, false] rfl rfl (by kernel_rfl) (fun _ _ _ h => h) (Or.inl ⟨by rfl, ?_⟩) ?_ ?_
  rotate_left
  · intro w'
    go_simp
    with_reducible rfl
  rotate_left
  · simp only [Act.put, List.setIfInBounds_toArray, List.set_cons_zero, List.set_cons_succ, i64_w, i32_w]
    rfl
  refine take_ (i := 0) (N := some 47) (v := ?_) (a' := ?_) #[true, true, true, false, false, true, false, false, false] rfl rfl (by kernel_rfl) (fun _ _ _ h => h) (Or.inl ⟨by rfl, ?_⟩) hHeld ?_ ?_
  rotate_left
  · rintro w' ⟨s0, s1⟩
    go_simp
    with_reducible rfl
  rotate_left
  · simp only [Act.put, List.setIfInBounds_toArray, List.set_cons_zero, List.set_cons_succ, i64_w, i32_w]
    rfl
  refine take_ (i := 3) (N := some 50) (v := ?_) (a' := ?_) #[true, true, true, true, false, true, false, false, false] rfl rfl (by kernel_rfl) (fun _ _ _ h => h) (Or.inl ⟨by rfl, ?_⟩) hHeld ?_ ?_
  rotate_left
  · rintro w' ⟨s0, s1⟩
    go_simp
    with_reducible rfl
  rotate_left
  · simp only [Act.put, List.setIfInBounds_toArray, List.set_cons_zero, List.set_cons_succ, i64_w, i32_w]
    rfl
  refine one_ (i := 4) (N := some 51) #[true, true, true, true, true, true, false, false, false] rfl rfl (by kernel_rfl) (by decide) (fun K hK => ?_)
  refine goes_ Try.func20 (by kernel_rfl) rfl #[.pointer (some ⟨b, 0, none⟩), .string s] (by rfl) rfl rfl (by (try simp only [List.map_toArray, List.map_cons, List.map_nil]); first | done | rfl) ?_
  with_reducible refine (drop_at st S b s HFIT.out.1 HFEW.out _ (Fo.below HF.out (below_drew (Below.refl _ _)))).mono ?_
  rintro e w5 ⟨rfl, hf5, hk5⟩
  refine ⟨_, rfl, ?_⟩
  have K5 := Aside0.mk (fkeep HS1.out (Nat.le_succ _) hk5 (blk_drew K5.out))
  have K6 := Aside0.mk (fkeep HS1.out (Nat.le_trans (Nat.le_succ _) (Nat.le_succ _)) hk5 (blk_drew K6.out))
  have K8 := Aside0.mk (fkeep HS1.out HW2.out hk5 (blk_drew K8.out))
  have HF5 := Aside0.mk hf5
  have HV5 := Aside0.mk (Kd.V_kept HV.out hk5.k (fun k hk hs => fapart HS.out HM1.out hk hs))
  have HG5 := Aside0.mk (HG.out.then_ hk5 (fun k hk => .inl (HS.out k hk).2.2.2))
  have HB5 := Aside0.mk (HB.out.trans (hk5.out H0_.out (fun k hk => (HS.out k hk).2.1)))
  clear hf5 hk5
  refine hK.out _ _ ⟨(blk_cell (K8.out) 0).trans rfl, (blk_cell (K5.out) 2).trans rfl⟩ (fun hHeld => ?_)
  clear hK K
  refine norm_ (a' := ?_) ?_ ?_
  rotate_left
  · show Act.put _ (some 51) _ = _
    simp only [Act.put, List.setIfInBounds_toArray, List.set_cons_zero, List.set_cons_succ, i64_w, i32_w]
    rfl
  refine pure_ (i := 6) (N := some 53) (v := ?_) (a' := ?_) #[true, true, true, true, true, true, true, false, false] rfl rfl (by kernel_rfl) (fun _ _ _ h => h) (Or.inl ⟨by rfl, ?_⟩) ?_ ?_
  rotate_left
  · intro w'
    go_simp
    with_reducible rfl
  rotate_left
  · simp only [Act.put, List.setIfInBounds_toArray, List.set_cons_zero, List.set_cons_succ, i64_w, i32_w]
    rfl
  refine last_ (i := 7) (N := none) #[true, true, true, true, true, true, true, true, false] rfl rfl (by kernel_rfl) (by decide) (fun K hK => ?_)
  have hs_ := (blk_cell K6.out 0).trans rfl
  have hf_ := blk_frozen K6.out 0
  refine skip_ (w1 := ?_) (by rfl) rfl ?_ ?_
  rotate_left
  · go_simp
    rfl
  refine hK.out _ _ ?_
  clear hK K
  refine pure_ (i := 8) (N := some 7) (v := ?_) (a' := ?_) #[true, true, true, true, true, true, true, true, true] rfl rfl (by kernel_rfl) (fun _ _ _ h => h) (Or.inl ⟨by rfl, ?_⟩) ?_ ?_
  rotate_left
  · intro w'
    go_simp
    with_reducible rfl
  rotate_left
  · simp only [Act.put, List.setIfInBounds_toArray, List.set_cons_zero, List.set_cons_succ, i64_w, i32_w]
    rfl
  refine done_ (by kernel_rfl) ?_
  go_wp2_with fail
  refine bodyPost_ret (results_ct rfl _ _ (w.heap.size + 1 + 1) 37 #[.slice A2 q'.length c2] (0, 0) _ rfl (blk_put (cs' := #[.slice A2 q'.length c2]) K6.out 0 _ rfl) Try.underlying37 rfl (by kernel_rfl)) rfl ?_
  exact ⟨_, _, rfl, fdone (m1 := w.heap.size + 1 + 1 + 1) HF5.out (VL_any (Kd.V_mono HV5.out (fun k hk => ⟨hk.1.imp id (fun h => by rw [← HM1.out]; exact h), hk.2⟩))) HS.out HP.out HGP.out (by omega) (by omega) HM2.out H0.out _, HB5.out.setCell (p := ⟨w.heap.size + 1 + 1, 0, none⟩) (Nat.le_trans H0.out (by show w.heap.size ≤ w.heap.size + 1 + 1; omega)) _, HG5.out.setCell (p := ⟨w.heap.size + 1 + 1, 0, none⟩) (.inr (by show w.heap.size ≤ w.heap.size + 1 + 1; omega)) _⟩
set_option maxHeartbeats 8000000 in
set_option maxRecDepth 100000 in
theorem fstep2 (k : Nat) (w0 : World) (G : Nat → Prop) (b : Nat) (st : FoS) (q q' : RL) (A : Option Addr) (c : Nat) (n : Int) (s t : ByteArray) (hfit : fitOp 2 n s t) (hfew : st.few) (hq : stylusref09_Move.f k q s t = some (q', nmHas st.n s.data.toList)) (w : World) (hB : Both w0 w G b st (.slice A q.length c) q) (hgp : ∀ k, G k → k < w.heap.size) (hw : Below w0.heap.size w0 w) :
    Calls Try.prog 16 #[.pointer (some ⟨b, 0, none⟩), .agg #[.slice A q.length c], .agg #[.int .i64 2, .int .i64 n, .string s, .string t]] w fun e w' => ∃ A' c', e = .returned (.tuple #[.agg #[.slice A' q'.length c'], .bool true]) ∧ Both w0 w' G b (st.move s t) (.slice A' q'.length c') q' ∧ Below w0.heap.size w0 w' ∧ Kep w w' (fun k => ¬ G k) := by
  have huF := Try.underlying37
  have huO := Try.underlying40
  have huP := Try.underlying25
  obtain ⟨S, P, hF, hV, hS, hP⟩ := hB
  have HS := Aside0.mk hS
  have HP := Aside0.mk hP
  have HS1 := Aside0.mk (fun k hk => (hS k hk).2)
  have H0 := Aside0.mk hw.size
  have HFEW := Aside0.mk hfew
  have HFIT := Aside0.mk hfit
  have HQ := Aside0.mk hq
  have b1 := below_alloc (below_alloc (below_alloc (Below.refl w.heap.size w) (.cells #[.slice A q.length c] 37)) (.cells #[.int .i64 2, .int .i64 n, .string s, .string t] 40)) (.cells #[.slice none 0 0] 37)
  have K4 := Aside0.mk (blk_alloc (blk_alloc (heap_alloc_new w (.cells #[.slice A q.length c] 37)) (.cells #[.int .i64 2, .int .i64 n, .string s, .string t] 40)) (.cells #[.slice none 0 0] 37))
  have k5 := blk_alloc (heap_alloc_new (w.alloc (.cells #[.slice A q.length c] 37)) (.cells #[.int .i64 2, .int .i64 n, .string s, .string t] 40)) (.cells #[.slice none 0 0] 37)
  have k6 := heap_alloc_new ((w.alloc (.cells #[.slice A q.length c] 37)).alloc (.cells #[.int .i64 2, .int .i64 n, .string s, .string t] 40)) (.cells #[.slice none 0 0] 37)
  rw [World.size_alloc] at k5
  rw [World.size_alloc, World.size_alloc] at k6
  have K5 := Aside0.mk k5
  have K6 := Aside0.mk k6
  have HF := Aside0.mk (Fo.below hF b1)
  have HV := Aside0.mk (Kd.V_below hV b1)
  have HB := Aside0.mk (below_step hw b1)
  have HG := Aside0.mk (Kep.of_below b1 (fun k => ¬ G k))
  have HGP := Aside0.mk hgp
  clear hS hP hfew hfit hq b1 k5 k6 hF hV hw hgp
  have hm1 : (((w.alloc (.cells #[.slice A q.length c] 37)).alloc (.cells #[.int .i64 2, .int .i64 n, .string s, .string t] 40)).alloc (.cells #[.slice none 0 0] 37)).heap.size = w.heap.size + 1 + 1 + 1 := by simp
  have HM1 := Aside0.mk hm1
  clear hm1
  go_enter Try.func16, Try.ntmps16
  go_upto_region 10 with (go_at_call 31; (with_reducible refine (stylusref09_Move.calls k P A c q s t q' (nmHas st.n s.data.toList) _ HV.out HQ.out).mono ?_); rintro e w2 ⟨v26, rfl, hV2, hb2⟩; obtain ⟨A2, c2, rfl⟩ := Kd.V_slice hV2; have HV2 := Aside0.mk (VL_any hV2); have KF := Aside0.mk (Fo.below HF.out hb2); have K5' := Aside0.mk (blk_below K5.out hb2); have K6' := Aside0.mk (blk_below K6.out hb2); have HB' := Aside0.mk (below_step HB.out hb2); have HG' := Aside0.mk (HG.out.below hb2); have HLE := Aside0.mk hb2.size; clear hV2 hb2 HV HF HB HG K4 K5 K6)
  have K5 := Aside0.mk (blk_alloc K5'.out (.cells #[.slice A2 q'.length c2] 37))
  have K6 := Aside0.mk (blk_alloc K6'.out (.cells #[.slice A2 q'.length c2] 37))
  have K8 := Aside0.mk (heap_alloc_new w2 (.cells #[.slice A2 q'.length c2] 37))
  have HF := Aside0.mk (Fo.below KF.out (below_alloc (Below.refl w2.heap.size w2) (.cells #[.slice A2 q'.length c2] 37)))
  have HV := Aside0.mk (Kd.V_bound (Kd.V_drew (Kd.V_alloc HV2.out (.cells #[.slice A2 q'.length c2] 37))))
  have HB := Aside0.mk (below_drew (below_alloc HB'.out (.cells #[.slice A2 q'.length c2] 37)))
  have HG := Aside0.mk (HG'.out.alloc (.cells #[.slice A2 q'.length c2] 37)).drew
  have HM2 := Aside0.mk (show w.heap.size + 1 + 1 + 1 ≤ (w2.alloc (.cells #[.slice A2 q'.length c2] 37)).drew.heap.size by have h1 := HLE.out; rw [HM1.out] at h1; simp; omega)
  clear K5' K6' KF HV2 HB' HG' HLE
  have HW2 := Aside0.mk (show w.heap.size ≤ w2.heap.size by have h1 := HM2.out; simp at h1; omega)
  have H0_ := Aside0.mk (show w0.heap.size ≤ (w2.alloc (.cells #[.slice A2 q'.length c2] 37)).drew.heap.size from Nat.le_trans H0.out (Nat.le_trans (by omega) HM2.out))
  refine start_ (n := 11) (S := fun w' => w'.cell? ⟨w2.heap.size, 0, none⟩ = some (.slice A2 q'.length c2) ∧ w'.cell? ⟨w.heap.size + 1, 2, none⟩ = some (.string s) ∧ w'.cell? ⟨w.heap.size + 1, 3, none⟩ = some (.string t)) (ds := [9]) #[false, false, false, false, false, false, false, false, false, false, false] (by kernel_rfl) rfl rfl ⟨(blk_cell (blk_drew K8.out) 0).trans rfl, (blk_cell (blk_drew K5.out) 2).trans rfl, (blk_cell (blk_drew K5.out) 3).trans rfl⟩ (fun hHeld => ?_)
  refine pure_ (i := 1) (N := some 66) (v := ?_) (a' := ?_) #[false, true, false, false, false, false, false, false, false, false, false] rfl rfl (by kernel_rfl) (fun _ _ _ h => h) (Or.inl ⟨by rfl, ?_⟩) ?_ ?_
  rotate_left
  · intro w'
    go_simp
    with_reducible rfl
  rotate_left
  · simp only [Act.put, List.setIfInBounds_toArray, List.set_cons_zero, List.set_cons_succ, i64_w, i32_w]
    rfl
  refine pure_ (i := 2) (N := some 67) (v := ?_) (a' := ?_) #[false, true, true, false, false, false, false, false, false, false, false] rfl rfl (by kernel_rfl) (fun _ _ _ h => h) (Or.inl ⟨by rfl, ?_⟩) ?_ ?_
  rotate_left
  · intro w'
    go_simp
    with_reducible rfl
  rotate_left
  · simp only [Act.put, List.setIfInBounds_toArray, List.set_cons_zero, List.set_cons_succ, i64_w, i32_w]
    rfl
  refine pure_ (i := 4) (N := some 69) (v := ?_) (a' := ?_) #[false, true, true, false, true, false, false, false, false, false, false] rfl rfl (by kernel_rfl) (fun _ _ _ h => h) (Or.inl ⟨by rfl, ?_⟩) ?_ ?_
  rotate_left
  · intro w'
    go_simp
    with_reducible rfl
  rotate_left
  · simp only [Act.put, List.setIfInBounds_toArray, List.set_cons_zero, List.set_cons_succ, i64_w, i32_w]
    rfl
  refine pure_ (i := 7) (N := some 72) (v := ?_) (a' := ?_) #[false, true, true, false, true, false, false, true, false, false, false] rfl rfl (by kernel_rfl) (fun _ _ _ h => h) (Or.inl ⟨by rfl, ?_⟩) ?_ ?_
  rotate_left
  · intro w'
    go_simp
    with_reducible rfl
  rotate_left
  · simp only [Act.put, List.setIfInBounds_toArray, List.set_cons_zero, List.set_cons_succ, i64_w, i32_w]
    rfl
  refine take_ (i := 0) (N := some 65) (v := ?_) (a' := ?_) #[true, true, true, false, true, false, false, true, false, false, false] rfl rfl (by kernel_rfl) (fun _ _ _ h => h) (Or.inl ⟨by rfl, ?_⟩) hHeld ?_ ?_
  rotate_left
  · rintro w' ⟨s0, s1, s2⟩
    go_simp
    with_reducible rfl
  rotate_left
  · simp only [Act.put, List.setIfInBounds_toArray, List.set_cons_zero, List.set_cons_succ, i64_w, i32_w]
    rfl
  refine take_ (i := 3) (N := some 68) (v := ?_) (a' := ?_) #[true, true, true, true, true, false, false, true, false, false, false] rfl rfl (by kernel_rfl) (fun _ _ _ h => h) (Or.inl ⟨by rfl, ?_⟩) hHeld ?_ ?_
  rotate_left
  · rintro w' ⟨s0, s1, s2⟩
    go_simp
    with_reducible rfl
  rotate_left
  · simp only [Act.put, List.setIfInBounds_toArray, List.set_cons_zero, List.set_cons_succ, i64_w, i32_w]
    rfl
  refine take_ (i := 5) (N := some 70) (v := ?_) (a' := ?_) #[true, true, true, true, true, true, false, true, false, false, false] rfl rfl (by kernel_rfl) (fun _ _ _ h => h) (Or.inl ⟨by rfl, ?_⟩) hHeld ?_ ?_
  rotate_left
  · rintro w' ⟨s0, s1, s2⟩
    go_simp
    with_reducible rfl
  rotate_left
  · simp only [Act.put, List.setIfInBounds_toArray, List.set_cons_zero, List.set_cons_succ, i64_w, i32_w]
    rfl
  refine one_ (i := 6) (N := some 71) #[true, true, true, true, true, true, true, true, false, false, false] rfl rfl (by kernel_rfl) (by decide) (fun K hK => ?_)
  refine goes_ Try.func10 (by kernel_rfl) rfl #[.pointer (some ⟨b, 0, none⟩), .string s, .string t] (by rfl) rfl rfl (by (try simp only [List.map_toArray, List.map_cons, List.map_nil]); first | done | rfl) ?_
  with_reducible refine (move_at st S b s t HFIT.out.1 HFIT.out.2.1 HFEW.out _ (Fo.below HF.out (below_drew (Below.refl _ _)))).mono ?_
  rintro e w5 ⟨rfl, hf5, hk5⟩
  refine ⟨_, rfl, ?_⟩
  have K5 := Aside0.mk (fkeep HS1.out (Nat.le_succ _) hk5 (blk_drew K5.out))
  have K6 := Aside0.mk (fkeep HS1.out (Nat.le_trans (Nat.le_succ _) (Nat.le_succ _)) hk5 (blk_drew K6.out))
  have K8 := Aside0.mk (fkeep HS1.out HW2.out hk5 (blk_drew K8.out))
  have HF5 := Aside0.mk hf5
  have HV5 := Aside0.mk (Kd.V_kept HV.out hk5.k (fun k hk hs => fapart HS.out HM1.out hk hs))
  have HG5 := Aside0.mk (HG.out.then_ hk5 (fun k hk => .inl (HS.out k hk).2.2.2))
  have HB5 := Aside0.mk (HB.out.trans (hk5.out H0_.out (fun k hk => (HS.out k hk).2.1)))
  clear hf5 hk5
  refine hK.out _ _ ⟨(blk_cell (K8.out) 0).trans rfl, (blk_cell (K5.out) 2).trans rfl, (blk_cell (K5.out) 3).trans rfl⟩ (fun hHeld => ?_)
  clear hK K
  refine norm_ (a' := ?_) ?_ ?_
  rotate_left
  · show Act.put _ (some 71) _ = _
    simp only [Act.put, List.setIfInBounds_toArray, List.set_cons_zero, List.set_cons_succ, i64_w, i32_w]
    rfl
  refine pure_ (i := 8) (N := some 73) (v := ?_) (a' := ?_) #[true, true, true, true, true, true, true, true, true, false, false] rfl rfl (by kernel_rfl) (fun _ _ _ h => h) (Or.inl ⟨by rfl, ?_⟩) ?_ ?_
  rotate_left
  · intro w'
    go_simp
    with_reducible rfl
  rotate_left
  · simp only [Act.put, List.setIfInBounds_toArray, List.set_cons_zero, List.set_cons_succ, i64_w, i32_w]
    rfl
  refine last_ (i := 9) (N := none) #[true, true, true, true, true, true, true, true, true, true, false] rfl rfl (by kernel_rfl) (by decide) (fun K hK => ?_)
  have hs_ := (blk_cell K6.out 0).trans rfl
  have hf_ := blk_frozen K6.out 0
  refine skip_ (w1 := ?_) (by rfl) rfl ?_ ?_
  rotate_left
  · go_simp
    rfl
  refine hK.out _ _ ?_
  clear hK K
  refine pure_ (i := 10) (N := some 7) (v := ?_) (a' := ?_) #[true, true, true, true, true, true, true, true, true, true, true] rfl rfl (by kernel_rfl) (fun _ _ _ h => h) (Or.inl ⟨by rfl, ?_⟩) ?_ ?_
  rotate_left
  · intro w'
    go_simp
    with_reducible rfl
  rotate_left
  · simp only [Act.put, List.setIfInBounds_toArray, List.set_cons_zero, List.set_cons_succ, i64_w, i32_w]
    rfl
  refine done_ (by kernel_rfl) ?_
  go_wp2_with fail
  refine bodyPost_ret (results_ct rfl _ _ (w.heap.size + 1 + 1) 37 #[.slice A2 q'.length c2] (0, 0) _ rfl (blk_put (cs' := #[.slice A2 q'.length c2]) K6.out 0 _ rfl) Try.underlying37 rfl (by kernel_rfl)) rfl ?_
  exact ⟨_, _, rfl, fdone (m1 := w.heap.size + 1 + 1 + 1) HF5.out (VL_any (Kd.V_mono HV5.out (fun k hk => ⟨hk.1.imp id (fun h => by rw [← HM1.out]; exact h), hk.2⟩))) HS.out HP.out HGP.out (by omega) (by omega) HM2.out H0.out _, HB5.out.setCell (p := ⟨w.heap.size + 1 + 1, 0, none⟩) (Nat.le_trans H0.out (by show w.heap.size ≤ w.heap.size + 1 + 1; omega)) _, HG5.out.setCell (p := ⟨w.heap.size + 1 + 1, 0, none⟩) (.inr (by show w.heap.size ≤ w.heap.size + 1 + 1; omega)) _⟩
set_option maxHeartbeats 8000000 in
set_option maxRecDepth 100000 in
theorem fstep4 (k : Nat) (w0 : World) (G : Nat → Prop) (b : Nat) (st : FoS) (q q' : RL) (A : Option Addr) (c : Nat) (n : Int) (s t : ByteArray) (hfit : fitOp 4 n s t) (hfew : st.few) (hq : stylusref09_Crash.f q n = some (q', crI n st.w.length)) (w : World) (hB : Both w0 w G b st (.slice A q.length c) q) (hgp : ∀ k, G k → k < w.heap.size) (hw : Below w0.heap.size w0 w) :
    Calls Try.prog 16 #[.pointer (some ⟨b, 0, none⟩), .agg #[.slice A q.length c], .agg #[.int .i64 4, .int .i64 n, .string s, .string t]] w fun e w' => ∃ A' c', e = .returned (.tuple #[.agg #[.slice A' q'.length c'], .bool true]) ∧ Both w0 w' G b (st.crash n) (.slice A' q'.length c') q' ∧ Below w0.heap.size w0 w' ∧ Kep w w' (fun k => ¬ G k) := by
  have huF := Try.underlying37
  have huO := Try.underlying40
  have huP := Try.underlying25
  obtain ⟨S, P, hF, hV, hS, hP⟩ := hB
  have HS := Aside0.mk hS
  have HP := Aside0.mk hP
  have HS1 := Aside0.mk (fun k hk => (hS k hk).2)
  have H0 := Aside0.mk hw.size
  have HFEW := Aside0.mk hfew
  have HFIT := Aside0.mk hfit
  have HQ := Aside0.mk hq
  have b1 := below_alloc (below_alloc (below_alloc (Below.refl w.heap.size w) (.cells #[.slice A q.length c] 37)) (.cells #[.int .i64 4, .int .i64 n, .string s, .string t] 40)) (.cells #[.slice none 0 0] 37)
  have K4 := Aside0.mk (blk_alloc (blk_alloc (heap_alloc_new w (.cells #[.slice A q.length c] 37)) (.cells #[.int .i64 4, .int .i64 n, .string s, .string t] 40)) (.cells #[.slice none 0 0] 37))
  have k5 := blk_alloc (heap_alloc_new (w.alloc (.cells #[.slice A q.length c] 37)) (.cells #[.int .i64 4, .int .i64 n, .string s, .string t] 40)) (.cells #[.slice none 0 0] 37)
  have k6 := heap_alloc_new ((w.alloc (.cells #[.slice A q.length c] 37)).alloc (.cells #[.int .i64 4, .int .i64 n, .string s, .string t] 40)) (.cells #[.slice none 0 0] 37)
  rw [World.size_alloc] at k5
  rw [World.size_alloc, World.size_alloc] at k6
  have K5 := Aside0.mk k5
  have K6 := Aside0.mk k6
  have HF := Aside0.mk (Fo.below hF b1)
  have HV := Aside0.mk (Kd.V_below hV b1)
  have HB := Aside0.mk (below_step hw b1)
  have HG := Aside0.mk (Kep.of_below b1 (fun k => ¬ G k))
  have HGP := Aside0.mk hgp
  clear hS hP hfew hfit hq b1 k5 k6 hF hV hw hgp
  have hm1 : (((w.alloc (.cells #[.slice A q.length c] 37)).alloc (.cells #[.int .i64 4, .int .i64 n, .string s, .string t] 40)).alloc (.cells #[.slice none 0 0] 37)).heap.size = w.heap.size + 1 + 1 + 1 := by simp
  have HM1 := Aside0.mk hm1
  clear hm1
  go_enter Try.func16, Try.ntmps16
  go_upto_region 16 with (go_at_call 33; (with_reducible refine (stylusref09_Crash.calls P A c q n q' (crI n st.w.length) _ HV.out HQ.out).mono ?_); rintro e w2 ⟨v26, rfl, hV2, hb2⟩; obtain ⟨A2, c2, rfl⟩ := Kd.N_slice hV2; have HV2 := Aside0.mk ((show VL w2 _ _ q' from Kd.N_V hV2)); have KF := Aside0.mk (Fo.below HF.out hb2); have K5' := Aside0.mk (blk_below K5.out hb2); have K6' := Aside0.mk (blk_below K6.out hb2); have HB' := Aside0.mk (below_step HB.out hb2); have HG' := Aside0.mk (HG.out.below hb2); have HLE := Aside0.mk hb2.size; clear hV2 hb2 HV HF HB HG K4 K5 K6)
  have K5 := Aside0.mk (blk_alloc K5'.out (.cells #[.slice A2 q'.length c2] 37))
  have K6 := Aside0.mk (blk_alloc K6'.out (.cells #[.slice A2 q'.length c2] 37))
  have K8 := Aside0.mk (heap_alloc_new w2 (.cells #[.slice A2 q'.length c2] 37))
  have HF := Aside0.mk (Fo.below KF.out (below_alloc (Below.refl w2.heap.size w2) (.cells #[.slice A2 q'.length c2] 37)))
  have HV := Aside0.mk (Kd.V_bound (Kd.V_drew (Kd.V_alloc HV2.out (.cells #[.slice A2 q'.length c2] 37))))
  have HB := Aside0.mk (below_drew (below_alloc HB'.out (.cells #[.slice A2 q'.length c2] 37)))
  have HG := Aside0.mk (HG'.out.alloc (.cells #[.slice A2 q'.length c2] 37)).drew
  have HM2 := Aside0.mk (show w.heap.size + 1 + 1 + 1 ≤ (w2.alloc (.cells #[.slice A2 q'.length c2] 37)).drew.heap.size by have h1 := HLE.out; rw [HM1.out] at h1; simp; omega)
  clear K5' K6' KF HV2 HB' HG' HLE
  have HW2 := Aside0.mk (show w.heap.size ≤ w2.heap.size by have h1 := HM2.out; simp at h1; omega)
  have H0_ := Aside0.mk (show w0.heap.size ≤ (w2.alloc (.cells #[.slice A2 q'.length c2] 37)).drew.heap.size from Nat.le_trans H0.out (Nat.le_trans (by omega) HM2.out))
  refine start_ (n := 9) (S := fun w' => w'.cell? ⟨w2.heap.size, 0, none⟩ = some (.slice A2 q'.length c2) ∧ w'.cell? ⟨w.heap.size + 1, 1, none⟩ = some (.int .i64 n)) (ds := [7]) #[false, false, false, false, false, false, false, false, false] (by kernel_rfl) rfl rfl ⟨(blk_cell (blk_drew K8.out) 0).trans rfl, (blk_cell (blk_drew K5.out) 1).trans rfl⟩ (fun hHeld => ?_)
  refine pure_ (i := 1) (N := some 90) (v := ?_) (a' := ?_) #[false, true, false, false, false, false, false, false, false] rfl rfl (by kernel_rfl) (fun _ _ _ h => h) (Or.inl ⟨by rfl, ?_⟩) ?_ ?_
  rotate_left
  · intro w'
    go_simp
    with_reducible rfl
  rotate_left
  · simp only [Act.put, List.setIfInBounds_toArray, List.set_cons_zero, List.set_cons_succ, i64_w, i32_w]
    rfl
  refine pure_ (i := 2) (N := some 91) (v := ?_) (a' := ?_) #[false, true, true, false, false, false, false, false, false] rfl rfl (by kernel_rfl) (fun _ _ _ h => h) (Or.inl ⟨by rfl, ?_⟩) ?_ ?_
  rotate_left
  · intro w'
    go_simp
    with_reducible rfl
  rotate_left
  · simp only [Act.put, List.setIfInBounds_toArray, List.set_cons_zero, List.set_cons_succ, i64_w, i32_w]
    rfl
  refine pure_ (i := 5) (N := some 94) (v := ?_) (a' := ?_) #[false, true, true, false, false, true, false, false, false] rfl rfl (by kernel_rfl) (fun _ _ _ h => h) (Or.inl ⟨by rfl, ?_⟩) ?_ ?_
  rotate_left
  · intro w'
    go_simp
    with_reducible rfl
  rotate_left
  · simp only [Act.put, List.setIfInBounds_toArray, List.set_cons_zero, List.set_cons_succ, i64_w, i32_w]
    rfl
  refine take_ (i := 0) (N := some 89) (v := ?_) (a' := ?_) #[true, true, true, false, false, true, false, false, false] rfl rfl (by kernel_rfl) (fun _ _ _ h => h) (Or.inl ⟨by rfl, ?_⟩) hHeld ?_ ?_
  rotate_left
  · rintro w' ⟨s0, s1⟩
    go_simp
    with_reducible rfl
  rotate_left
  · simp only [Act.put, List.setIfInBounds_toArray, List.set_cons_zero, List.set_cons_succ, i64_w, i32_w]
    rfl
  refine take_ (i := 3) (N := some 92) (v := ?_) (a' := ?_) #[true, true, true, true, false, true, false, false, false] rfl rfl (by kernel_rfl) (fun _ _ _ h => h) (Or.inl ⟨by rfl, ?_⟩) hHeld ?_ ?_
  rotate_left
  · rintro w' ⟨s0, s1⟩
    go_simp
    with_reducible rfl
  rotate_left
  · simp only [Act.put, List.setIfInBounds_toArray, List.set_cons_zero, List.set_cons_succ, i64_w, i32_w]
    rfl
  refine one_ (i := 4) (N := some 93) #[true, true, true, true, true, true, false, false, false] rfl rfl (by kernel_rfl) (by decide) (fun K hK => ?_)
  refine goes_ Try.func11 (by kernel_rfl) rfl #[.pointer (some ⟨b, 0, none⟩), .int .i64 n] (by rfl) rfl rfl (by (try simp only [List.map_toArray, List.map_cons, List.map_nil]); first | done | rfl) ?_
  with_reducible refine (crash_at st S b n HFEW.out _ (Fo.below HF.out (below_drew (Below.refl _ _)))).mono ?_
  rintro e w5 ⟨rfl, hf5, hk5⟩
  refine ⟨_, rfl, ?_⟩
  have K5 := Aside0.mk (fkeep HS1.out (Nat.le_succ _) hk5 (blk_drew K5.out))
  have K6 := Aside0.mk (fkeep HS1.out (Nat.le_trans (Nat.le_succ _) (Nat.le_succ _)) hk5 (blk_drew K6.out))
  have K8 := Aside0.mk (fkeep HS1.out HW2.out hk5 (blk_drew K8.out))
  have HF5 := Aside0.mk hf5
  have HV5 := Aside0.mk (Kd.V_kept HV.out hk5.k (fun k hk hs => fapart HS.out HM1.out hk hs))
  have HG5 := Aside0.mk (HG.out.then_ hk5 (fun k hk => .inl (HS.out k hk).2.2.2))
  have HB5 := Aside0.mk (HB.out.trans (hk5.out H0_.out (fun k hk => (HS.out k hk).2.1)))
  clear hf5 hk5
  refine hK.out _ _ ⟨(blk_cell (K8.out) 0).trans rfl, (blk_cell (K5.out) 1).trans rfl⟩ (fun hHeld => ?_)
  clear hK K
  refine norm_ (a' := ?_) ?_ ?_
  rotate_left
  · show Act.put _ (some 93) _ = _
    simp only [Act.put, List.setIfInBounds_toArray, List.set_cons_zero, List.set_cons_succ, i64_w, i32_w]
    rfl
  refine pure_ (i := 6) (N := some 95) (v := ?_) (a' := ?_) #[true, true, true, true, true, true, true, false, false] rfl rfl (by kernel_rfl) (fun _ _ _ h => h) (Or.inl ⟨by rfl, ?_⟩) ?_ ?_
  rotate_left
  · intro w'
    go_simp
    with_reducible rfl
  rotate_left
  · simp only [Act.put, List.setIfInBounds_toArray, List.set_cons_zero, List.set_cons_succ, i64_w, i32_w]
    rfl
  refine last_ (i := 7) (N := none) #[true, true, true, true, true, true, true, true, false] rfl rfl (by kernel_rfl) (by decide) (fun K hK => ?_)
  have hs_ := (blk_cell K6.out 0).trans rfl
  have hf_ := blk_frozen K6.out 0
  refine skip_ (w1 := ?_) (by rfl) rfl ?_ ?_
  rotate_left
  · go_simp
    rfl
  refine hK.out _ _ ?_
  clear hK K
  refine pure_ (i := 8) (N := some 7) (v := ?_) (a' := ?_) #[true, true, true, true, true, true, true, true, true] rfl rfl (by kernel_rfl) (fun _ _ _ h => h) (Or.inl ⟨by rfl, ?_⟩) ?_ ?_
  rotate_left
  · intro w'
    go_simp
    with_reducible rfl
  rotate_left
  · simp only [Act.put, List.setIfInBounds_toArray, List.set_cons_zero, List.set_cons_succ, i64_w, i32_w]
    rfl
  refine done_ (by kernel_rfl) ?_
  go_wp2_with fail
  refine bodyPost_ret (results_ct rfl _ _ (w.heap.size + 1 + 1) 37 #[.slice A2 q'.length c2] (0, 0) _ rfl (blk_put (cs' := #[.slice A2 q'.length c2]) K6.out 0 _ rfl) Try.underlying37 rfl (by kernel_rfl)) rfl ?_
  exact ⟨_, _, rfl, fdone (m1 := w.heap.size + 1 + 1 + 1) HF5.out (VL_any (Kd.V_mono HV5.out (fun k hk => ⟨hk.1.imp id (fun h => by rw [← HM1.out]; exact h), hk.2⟩))) HS.out HP.out HGP.out (by omega) (by omega) HM2.out H0.out _, HB5.out.setCell (p := ⟨w.heap.size + 1 + 1, 0, none⟩) (Nat.le_trans H0.out (by show w.heap.size ≤ w.heap.size + 1 + 1; omega)) _, HG5.out.setCell (p := ⟨w.heap.size + 1 + 1, 0, none⟩) (.inr (by show w.heap.size ≤ w.heap.size + 1 + 1; omega)) _⟩
set_option maxHeartbeats 8000000 in
set_option maxRecDepth 100000 in
theorem fstep3 (k : Nat) (w0 : World) (G : Nat → Prop) (b : Nat) (st : FoS) (q q' : RL) (A : Option Addr) (c : Nat) (n : Int) (s t : ByteArray) (hfit : fitOp 3 n s t) (hfew : st.few) (hq : stylusref09_Sync.f q = some q') (w : World) (hB : Both w0 w G b st (.slice A q.length c) q) (hgp : ∀ k, G k → k < w.heap.size) (hw : Below w0.heap.size w0 w) :
    Calls Try.prog 16 #[.pointer (some ⟨b, 0, none⟩), .agg #[.slice A q.length c], .agg #[.int .i64 3, .int .i64 n, .string s, .string t]] w fun e w' => ∃ A' c', e = .returned (.tuple #[.agg #[.slice A' q'.length c'], .bool true]) ∧ Both w0 w' G b st.sync (.slice A' q'.length c') q' ∧ Below w0.heap.size w0 w' ∧ Kep w w' (fun k => ¬ G k) := by
  have huF := Try.underlying37
  have huO := Try.underlying40
  have huP := Try.underlying25
  obtain ⟨S, P, hF, hV, hS, hP⟩ := hB
  have HS := Aside0.mk hS
  have HP := Aside0.mk hP
  have HS1 := Aside0.mk (fun k hk => (hS k hk).2)
  have H0 := Aside0.mk hw.size
  have HFEW := Aside0.mk hfew
  have HFIT := Aside0.mk hfit
  have HQ := Aside0.mk hq
  have b1 := below_alloc (below_alloc (below_alloc (Below.refl w.heap.size w) (.cells #[.slice A q.length c] 37)) (.cells #[.int .i64 3, .int .i64 n, .string s, .string t] 40)) (.cells #[.slice none 0 0] 37)
  have K4 := Aside0.mk (blk_alloc (blk_alloc (heap_alloc_new w (.cells #[.slice A q.length c] 37)) (.cells #[.int .i64 3, .int .i64 n, .string s, .string t] 40)) (.cells #[.slice none 0 0] 37))
  have k5 := blk_alloc (heap_alloc_new (w.alloc (.cells #[.slice A q.length c] 37)) (.cells #[.int .i64 3, .int .i64 n, .string s, .string t] 40)) (.cells #[.slice none 0 0] 37)
  have k6 := heap_alloc_new ((w.alloc (.cells #[.slice A q.length c] 37)).alloc (.cells #[.int .i64 3, .int .i64 n, .string s, .string t] 40)) (.cells #[.slice none 0 0] 37)
  rw [World.size_alloc] at k5
  rw [World.size_alloc, World.size_alloc] at k6
  have K5 := Aside0.mk k5
  have K6 := Aside0.mk k6
  have HF := Aside0.mk (Fo.below hF b1)
  have HV := Aside0.mk (Kd.V_below hV b1)
  have HB := Aside0.mk (below_step hw b1)
  have HG := Aside0.mk (Kep.of_below b1 (fun k => ¬ G k))
  have HGP := Aside0.mk hgp
  clear hS hP hfew hfit hq b1 k5 k6 hF hV hw hgp
  have hm1 : (((w.alloc (.cells #[.slice A q.length c] 37)).alloc (.cells #[.int .i64 3, .int .i64 n, .string s, .string t] 40)).alloc (.cells #[.slice none 0 0] 37)).heap.size = w.heap.size + 1 + 1 + 1 := by simp
  have HM1 := Aside0.mk hm1
  clear hm1
  go_enter Try.func16, Try.ntmps16
  go_wp2_with (first
    | (go_at_call 9; (with_reducible refine (sync_at st S b HFEW.out _ HF.out).mono ?_); rintro e w5 ⟨⟨v5, rfl⟩, hf5, hk5⟩; have K4' := Aside0.mk (fkeep HS1.out (Nat.le_refl _) hk5 K4.out); have K6' := Aside0.mk (fkeep HS1.out (Nat.le_trans (Nat.le_succ _) (Nat.le_succ _)) hk5 K6.out); have HV5 := Aside0.mk (VL_any (Kd.V_kept HV.out hk5.k (fun k hk hs => (HS.out k hs).1 hk))); have HF5 := Aside0.mk (at_tight hf5); have HSZ := Aside0.mk hk5.b.size; have HG5 := Aside0.mk (HG.out.then_ hk5 (fun k hk => .inl (HS.out k hk).2.2.2)); have HB5 := Aside0.mk (HB.out.trans (hk5.out (B := w0.heap.size) (Nat.le_trans H0.out (by rw [HM1.out]; omega)) (fun k hk => (HS.out k hk).2.1))); have c4 := (blk_cell K4'.out 0).trans rfl; clear hf5 hk5 K4 K6 HV HF HB HG)
    | (go_at_call 32; (with_reducible refine (stylusref09_Sync.calls P A c q q' _ HV5.out HQ.out).mono ?_); rintro e w6 ⟨v6, rfl, hN6, hb6⟩; obtain ⟨A2, c2, rfl⟩ := Kd.N_slice hN6; have HV6 := Aside0.mk (show VL w6 _ _ q' from Kd.N_V hN6); have K6 := Aside0.mk (blk_below K6'.out hb6); have HF6 := Aside0.mk (Fo.below HF5.out hb6); have HSZ6 := Aside0.mk hb6.size; have HB6 := Aside0.mk (below_step HB5.out hb6); have HG6 := Aside0.mk (HG5.out.below hb6); have hs_ := (blk_cell K6.out 0).trans rfl; have hf_ := blk_frozen K6.out 0; clear hN6 hb6 c4))
  refine bodyPost_ret (results_ct rfl _ _ (w.heap.size + 1 + 1) 37 #[.slice A2 q'.length c2] (0, 0) _ rfl (blk_put (cs' := #[.slice A2 q'.length c2]) K6.out 0 _ rfl) Try.underlying37 rfl (by kernel_rfl)) rfl ?_
  exact ⟨_, _, rfl, fdone3 HF6.out HV6.out HS.out HP.out HGP.out HM1.out HSZ.out H0.out _, HB6.out.setCell (p := ⟨w.heap.size + 1 + 1, 0, none⟩) (Nat.le_trans H0.out (by show w.heap.size ≤ w.heap.size + 1 + 1; omega)) _, HG6.out.setCell (p := ⟨w.heap.size + 1 + 1, 0, none⟩) (.inr (by show w.heap.size ≤ w.heap.size + 1 + 1; omega)) _⟩
set_option maxHeartbeats 8000000 in
set_option maxRecDepth 100000 in
theorem fstep5 (k : Nat) (kd : Int) (w0 : World) (G : Nat → Prop) (b : Nat) (st : FoS) (q q' : RL) (A : Option Addr) (c : Nat) (n : Int) (s t : ByteArray) (hfit : fitOp kd n s t) (hfew : st.few) (hq : q = q') (z0 : (kd == 0) = false) (z1 : (kd == 1) = false) (z2 : (kd == 2) = false) (z3 : (kd == 3) = false) (z4 : (kd == 4) = false) (w : World) (hB : Both w0 w G b st (.slice A q.length c) q) (hgp : ∀ k, G k → k < w.heap.size) (hw : Below w0.heap.size w0 w) :
    Calls Try.prog 16 #[.pointer (some ⟨b, 0, none⟩), .agg #[.slice A q.length c], .agg #[.int .i64 kd, .int .i64 n, .string s, .string t]] w fun e w' => ∃ A' c', e = .returned (.tuple #[.agg #[.slice A' q'.length c'], .bool true]) ∧ Both w0 w' G b st (.slice A' q'.length c') q' ∧ Below w0.heap.size w0 w' ∧ Kep w w' (fun k => ¬ G k) := by
  have huF := Try.underlying37
  have huO := Try.underlying40
  have huP := Try.underlying25
  subst hq
  have hq : True := trivial
  have HB0 := Aside0.mk hB
  have HW0 := Aside0.mk hw
  clear hB
  obtain ⟨S, P, hF, hV, hS, hP⟩ := HB0.out
  have HS := Aside0.mk hS
  have HP := Aside0.mk hP
  have HS1 := Aside0.mk (fun k hk => (hS k hk).2)
  have H0 := Aside0.mk hw.size
  have HFEW := Aside0.mk hfew
  have HFIT := Aside0.mk hfit
  have HQ := Aside0.mk hq
  have b1 := below_alloc (below_alloc (below_alloc (Below.refl w.heap.size w) (.cells #[.slice A q.length c] 37)) (.cells #[.int .i64 kd, .int .i64 n, .string s, .string t] 40)) (.cells #[.slice none 0 0] 37)
  have K4 := Aside0.mk (blk_alloc (blk_alloc (heap_alloc_new w (.cells #[.slice A q.length c] 37)) (.cells #[.int .i64 kd, .int .i64 n, .string s, .string t] 40)) (.cells #[.slice none 0 0] 37))
  have k5 := blk_alloc (heap_alloc_new (w.alloc (.cells #[.slice A q.length c] 37)) (.cells #[.int .i64 kd, .int .i64 n, .string s, .string t] 40)) (.cells #[.slice none 0 0] 37)
  have k6 := heap_alloc_new ((w.alloc (.cells #[.slice A q.length c] 37)).alloc (.cells #[.int .i64 kd, .int .i64 n, .string s, .string t] 40)) (.cells #[.slice none 0 0] 37)
  rw [World.size_alloc] at k5
  rw [World.size_alloc, World.size_alloc] at k6
  have K5 := Aside0.mk k5
  have K6 := Aside0.mk k6
  have HF := Aside0.mk (Fo.below hF b1)
  have HV := Aside0.mk (Kd.V_below hV b1)
  have HB := Aside0.mk (below_step hw b1)
  have HG := Aside0.mk (Kep.of_below b1 (fun k => ¬ G k))
  have HGP := Aside0.mk hgp
  clear hS hP hfew hfit hq b1 k5 k6 hF hV hw hgp
  have hm1 : (((w.alloc (.cells #[.slice A q.length c] 37)).alloc (.cells #[.int .i64 kd, .int .i64 n, .string s, .string t] 40)).alloc (.cells #[.slice none 0 0] 37)).heap.size = w.heap.size + 1 + 1 + 1 := by simp
  have HM1 := Aside0.mk hm1
  clear hm1
  go_enter Try.func16, Try.ntmps16
  have k9 := heap_alloc_new ((w.alloc (.cells #[.slice A q.length c] 37)).alloc (.cells #[.int .i64 kd, .int .i64 n, .string s, .string t] 40)) (.cells #[.slice A q.length c] 37)
  rw [World.size_alloc, World.size_alloc] at k9
  have K9 := Aside0.mk k9
  have B9 := Aside0.mk (below_alloc (below_alloc (below_alloc (Below.refl w.heap.size w) (.cells #[.slice A q.length c] 37)) (.cells #[.int .i64 kd, .int .i64 n, .string s, .string t] 40)) (.cells #[.slice A q.length c] 37))
  clear k9
  have hs4 := (blk_cell K4.out 0).trans rfl
  have hs_ := (blk_cell K6.out 0).trans rfl
  have hf_ := blk_frozen K6.out 0
  go_wp2_with fail
  refine bodyPost_ret (results_ct rfl _ _ (w.heap.size + 1 + 1) 37 #[.slice A q.length c] (0, 0) _ rfl K9.out Try.underlying37 rfl (by kernel_rfl)) rfl ?_
  exact ⟨_, _, rfl, Both.below HB0.out B9.out, below_step HW0.out B9.out, Kep.of_below B9.out _⟩
theorem styluslaw09_step.calls (k : Nat) (w0 : World) (G : Nat → Prop) (b : Nat) (st st' : FoS) (q q' : RL) (A : Option Addr) (c : Nat) (kd n : Int) (s t : ByteArray) (hfit : fitOp kd n s t) (hfew : st.few) (hq : stepOf k st q kd n s t = some (st', q')) (w : World) (hB : Both w0 w G b st (.slice A q.length c) q) (hgp : ∀ k, G k → k < w.heap.size) (hw : Below w0.heap.size w0 w) :
    Calls Try.prog 16 #[.pointer (some ⟨b, 0, none⟩), .agg #[.slice A q.length c], .agg #[.int .i64 kd, .int .i64 n, .string s, .string t]] w fun e w' => ∃ A' c', e = .returned (.tuple #[.agg #[.slice A' q'.length c'], .bool true]) ∧ Both w0 w' G b st' (.slice A' q'.length c') q' ∧ Below w0.heap.size w0 w' ∧ Kep w w' (fun k => ¬ G k) := by
  unfold stepOf at hq
  by_cases h0 : kd = 0
  · rw [if_pos h0] at hq
    obtain ⟨⟨r1, r2⟩, e1, e2⟩ := Option.bind_eq_some_iff.mp hq
    split at e2
    case isFalse => cases e2
    case isTrue h =>
      obtain ⟨rfl, rfl⟩ := Prod.mk.inj (Option.some.inj e2)
      subst h0
      exact fstep0 k w0 G b st q _ A c n s t hfit hfew (by rw [e1]; exact congrArg some (Prod.ext rfl h)) w hB hgp hw
  rw [if_neg h0] at hq
  by_cases h1 : kd = 1
  · rw [if_pos h1] at hq
    obtain ⟨⟨r1, r2⟩, e1, e2⟩ := Option.bind_eq_some_iff.mp hq
    split at e2
    case isFalse => cases e2
    case isTrue h =>
      obtain ⟨rfl, rfl⟩ := Prod.mk.inj (Option.some.inj e2)
      subst h1
      exact fstep1 k w0 G b st q _ A c n s t hfit hfew (by rw [e1]; exact congrArg some (Prod.ext rfl h)) w hB hgp hw
  rw [if_neg h1] at hq
  by_cases h2 : kd = 2
  · rw [if_pos h2] at hq
    obtain ⟨⟨r1, r2⟩, e1, e2⟩ := Option.bind_eq_some_iff.mp hq
    split at e2
    case isFalse => cases e2
    case isTrue h =>
      obtain ⟨rfl, rfl⟩ := Prod.mk.inj (Option.some.inj e2)
      subst h2
      exact fstep2 k w0 G b st q _ A c n s t hfit hfew (by rw [e1]; exact congrArg some (Prod.ext rfl h)) w hB hgp hw
  rw [if_neg h2] at hq
  by_cases h3 : kd = 3
  · rw [if_pos h3] at hq
    obtain ⟨r1, e1, e2⟩ := Option.bind_eq_some_iff.mp hq
    obtain ⟨rfl, rfl⟩ := Prod.mk.inj (Option.some.inj e2)
    subst h3
    exact fstep3 k w0 G b st q _ A c n s t hfit hfew e1 w hB hgp hw
  rw [if_neg h3] at hq
  by_cases h4 : kd = 4
  · rw [if_pos h4] at hq
    obtain ⟨⟨r1, r2⟩, e1, e2⟩ := Option.bind_eq_some_iff.mp hq
    split at e2
    case isFalse => cases e2
    case isTrue h =>
      obtain ⟨rfl, rfl⟩ := Prod.mk.inj (Option.some.inj e2)
      subst h4
      exact fstep4 k w0 G b st q _ A c n s t hfit hfew (by rw [e1]; exact congrArg some (Prod.ext rfl h)) w hB hgp hw
  rw [if_neg h4] at hq
  obtain ⟨rfl, rfl⟩ := Prod.mk.inj (Option.some.inj hq)
  exact fstep5 k kd w0 G b st q q A c n s t hfit hfew rfl (beq_eq_false_iff_ne.2 h0) (beq_eq_false_iff_ne.2 h1) (beq_eq_false_iff_ne.2 h2) (beq_eq_false_iff_ne.2 h3) (beq_eq_false_iff_ne.2 h4) w hB hgp hw

/-! ### folder_Folder_Kept: function 22 -/
-- NEEDS (*stylus/folder.Folder).Now
theorem folder_Folder_Kept.nob (p : Value) (w : World) (h : Nob w p) :
    Calls Try.prog 22 #[p] w fun e w' => e = .returned (.slice none 0 0) ∧ w' = w := by
  go_enter Try.func22, Try.ntmps22
  go_wp2_with (go_at_call 24; (with_reducible refine (folder_Folder_none.calls p _ h).mono ?_); rintro e w2 ⟨rfl, rfl⟩)
  go_ret
  exact ⟨rfl, rfl⟩
theorem folder_Folder_Kept.calls (S : Nat → Prop) (b : Nat) (L0 L : Nms) (cs : List Chg) (hl : L0.length ≤ 1000000) (w : World) (h : Fo w S b L0 L cs) :
    Calls Try.prog 22 #[.pointer (some ⟨b, 0, none⟩)] w fun e w' => ∃ v : Value, e = .returned v ∧ Kd.R k84 84 w' w.heap.size (fun _ => True) v (L0.map toS) ∧ Below w.heap.size w w' := by
  have huF := Try.underlying52
  have hm := folder_Folder_none.made b w h.cell
  obtain ⟨kb, nb, A, cap, hb, _, _, hk, _, _, _⟩ := h
  have HL := Aside0.mk (folder_names_list.calls kb L0 hl w hk)
  have c1 := (blk_cell hb 0).trans rfl
  clear hb hk
  go_enter Try.func22, Try.ntmps22
  go_wp2_with (first
    | (go_at_call 24; (with_reducible refine hm.mono ?_); clear hm; rintro e w2 ⟨rfl, rfl⟩)
    | (go_at_call 38; (with_reducible refine HL.out.mono ?_); rintro e w3 ⟨v3, rfl, hR3, hb3⟩))
  go_ret
  exact ⟨_, rfl, hR3, hb3⟩

end Go.Proofs.Ytdlnbchgimmmoaa.P
