/- Whatever names come, go and change, and whatever of that lasts, a folder has the names of the page. -/
import Derived.Test.YtdlnbchgimmmoaaPx1
import Derived.Test.YtdlnbchgimmmoaaPx2
import Derived.Test.YtdlnbchgimmmoaaPx3
import Derived.Test.YtdlnbchgimmmoaaPx4
import Derived.Test.YtdlnbchgimmmoaaPx5
import Derived.Test.YtdlnbchgimmmoaaPx6
import Derived.Test.YtdlnbchgimmmoaaPx7
import Derived.Test.YtdlnbchgimmmoaaPx8
import Derived.Test.YtdlnbchgimmmoaaFolderIds
namespace Go.Proofs.Ytdlnbchgimmmoaa.Pure
open Go.RowKit Go.Proofs.Ytdlnbchgimmmoaa.P Go.Proofs.YtdlnbchgimmmoaaW.PrintWords Go.Proofs.YtdlnbchgimmmoaaW.PrintLast

def rowsOf (st : FoS) : RL := (namesOf st).map rowR
structure Rel (st : FoS) (M : Nat) : Prop where
  n : st.n = nmRun st.k st.w
  w : st.w.length ≤ M
  r : ∀ j, (nmRun st.k (st.w.take j)).length ≤ M
theorem Rel.mono {st : FoS} {M M' : Nat} (h : Rel st M) (hm : M ≤ M') : Rel st M' := ⟨h.n, Nat.le_trans h.w hm, fun j => Nat.le_trans (h.r j) hm⟩
theorem Rel.k {st : FoS} {M : Nat} (h : Rel st M) : st.k.length ≤ M := by have := h.r 0; rwa [List.take_zero] at this
theorem Rel.nn {st : FoS} {M : Nat} (h : Rel st M) : st.n.length ≤ M := by have := h.r st.w.length; rw [List.take_length] at this; rw [h.n]; exact this
theorem Rel.few {st : FoS} {M : Nat} (h : Rel st M) (hm : M ≤ 1000) : st.few := ⟨Nat.le_trans h.k hm, Nat.le_trans h.nn hm, Nat.le_trans h.w hm⟩
theorem names_length (st : FoS) : (namesOf st).length = st.w.length + 1 := by simp [namesOf]
theorem rows_length (st : FoS) : (rowsOf st).length = st.w.length + 1 := by rw [rowsOf, List.length_map, names_length]
theorem names_at (st : FoS) (j : Nat) (h : j < (namesOf st).length) : (namesOf st)[j] = nmRun st.k (st.w.take j) := by simp [namesOf]
theorem rows_at (st : FoS) (j : Nat) (h : j ≤ st.w.length) : rd_L9 (rowsOf st) (j : Int) = rowR (nmRun st.k (st.w.take j)) := by
  have hj : j < (namesOf st).length := by rw [names_length]; omega
  rw [rowsOf, rd_rows (namesOf st) j hj, names_at]
theorem rows_snoc (k n n' : Nms) (w : List Chg) (c : Chg) : rowsOf ⟨k, n', w ++ [c]⟩ = rowsOf ⟨k, n, w⟩ ++ [rowR (nmStep (nmRun k w) c)] := by
  have e : namesOf ⟨k, n', w ++ [c]⟩ = namesOf ⟨k, n, w⟩ ++ [nmStep (nmRun k w) c] := by
    unfold namesOf
    show (List.range ((w ++ [c]).length + 1)).map (fun j => nmRun k ((w ++ [c]).take j)) = (List.range (w.length + 1)).map (fun j => nmRun k (w.take j)) ++ [nmStep (nmRun k w) c]
    have hl : (w ++ [c]).length + 1 = (w.length + 1) + 1 := by simp
    rw [hl, List.range_succ (n := w.length + 1), List.map_append]
    have h1 : (List.range (w.length + 1)).map (fun j => nmRun k ((w ++ [c]).take j)) = (List.range (w.length + 1)).map (fun j => nmRun k (w.take j)) := by
      refine List.map_congr_left (fun j hj => ?_)
      rw [List.mem_range] at hj
      rw [List.take_append_of_le_length (by omega)]
    have h2 : nmRun k ((w ++ [c]).take (w.length + 1)) = nmStep (nmRun k w) c := by
      rw [List.take_of_length_le (by simp)]
      unfold nmRun
      rw [List.foldl_append]
      rfl
    rw [h1]
    simp [h2]
  rw [rowsOf, e, List.map_append]
  rfl
theorem now_eq {st : FoS} {M : Nat} (h : Rel st M) (hm : M ≤ 100) : stylusref09_Now.f (rowsOf st) = some (rowR st.n) := by
  have hw := h.w
  have e : wrap64 (((rowsOf st).length : Int) - 1) = (st.w.length : Int) := by rw [rows_length]; unfold wrap64; omega
  unfold stylusref09_Now.f
  rw [e, if_pos (by omega), if_pos (by rw [rows_length]; omega), rows_at st _ (Nat.le_refl _), List.take_length, ← h.n]
theorem kept_eq (st : FoS) : stylusref09_Kept.f (rowsOf st) = some (rowR st.k) := by
  unfold stylusref09_Kept.f
  have := rows_at st 0 (Nat.zero_le _)
  rw [if_pos (by rw [rows_length]; omega)]
  rw [show (0 : Int) = ((0 : Nat) : Int) from rfl, this, List.take_zero]
  rfl
theorem then_eq (q : RL) (l : List En) (h : q.length ≤ 1000) : stylusref09_then.f q l = some (q ++ [l]) := by
  unfold stylusref09_then.f
  rw [Option.bind_some, if_pos (by simp; omega), Option.bind_some, if_pos (by simp; omega)]
  rfl
theorem rel_snoc {k n : Nms} {w : List Chg} {M : Nat} (h : Rel ⟨k, n, w⟩ M) (c : Chg) (n' : Nms) (hn : n' = nmStep (nmRun k w) c) : Rel ⟨k, n', w ++ [c]⟩ (M + 1) := by
  have hw : w.length ≤ M := h.w
  have hr : ∀ j, (nmRun k (w.take j)).length ≤ M := h.r
  refine ⟨?_, ?_, fun j => ?_⟩
  · show n' = nmRun k (w ++ [c])
    rw [hn]
    unfold nmRun
    rw [List.foldl_append]
    rfl
  · show (w ++ [c]).length ≤ M + 1
    simp
    omega
  · show (nmRun k ((w ++ [c]).take j)).length ≤ M + 1
    by_cases hj : j ≤ w.length
    · rw [List.take_append_of_le_length hj]
      have := hr j
      omega
    · rw [List.take_of_length_le (by simp; omega)]
      have h1 := hr w.length
      rw [List.take_length] at h1
      have h2 := nmStep_le (nmRun k w) c
      have e : nmRun k (w ++ [c]) = nmStep (nmRun k w) c := by unfold nmRun; rw [List.foldl_append]; rfl
      rw [e]
      omega
theorem rel_one (k : Nms) {M : Nat} (h : k.length ≤ M) : Rel ⟨k, k, []⟩ M := ⟨rfl, Nat.zero_le _, fun j => by rw [List.take_nil]; exact h⟩
theorem rows_one (k : Nms) : rowsOf ⟨k, k, []⟩ = [rowR k] := rfl
theorem del_not (L : Nms) (s : List UInt8) (h : nmHas L s = false) : nmDel L s = L := by
  unfold nmDel
  refine List.filter_eq_self.2 (fun p hp => ?_)
  have := List.any_eq_false.1 h p hp
  simpa using this
theorem put_ev {st : FoS} {M : Nat} (h : Rel st M) (hm : M ≤ 100) (s : ByteArray) (v : Int) : Ev (fun k => stylusref09_Put.f k (rowsOf st) s v) (rowsOf (st.put s v), !nmHas st.n s.data.toList) ∧ Rel (st.put s v) (M + 1) := by
  obtain ⟨k, n, w⟩ := st
  have hn : n.length ≤ M := h.nn
  have hw : w.length ≤ M := h.w
  have hnk : n = nmRun k w := h.n
  unfold stylusref09_Put.f
  cases hh : nmHas n s.data.toList with
  | true =>
    have e : (⟨k, n, w⟩ : FoS).put s v = ⟨k, n, w⟩ := by unfold FoS.put; simp [hh]
    rw [e]
    refine ⟨Ev.call (now_eq h hm) (Ev.bind (find_ev n s (by omega)) ?_), h.mono (Nat.le_succ _)⟩
    rw [hh]
    exact Ev.pos rfl (Ev.now _)
  | false =>
    have e : (⟨k, n, w⟩ : FoS).put s v = ⟨k, nmPut n s.data.toList v, w ++ [⟨false, ⟨#[]⟩, true, s, v⟩]⟩ := by unfold FoS.put; simp [hh]
    have e2 : nmPut n s.data.toList v = nmIns (s.data.toList, v) n := by unfold nmPut; rw [del_not _ _ hh]
    rw [e]
    refine ⟨Ev.call (now_eq h hm) (Ev.bind (find_ev n s (by omega)) ?_), rel_snoc h _ _ (by rw [← hnk]; rfl)⟩
    rw [hh]
    refine Ev.neg Bool.false_ne_true (Ev.call (now_eq h hm) (Ev.bind (with_ev n s v (by omega)) (Ev.call (then_eq _ _ (by rw [rows_length]; show w.length + 1 ≤ 1000; omega)) ?_)))
    rw [rows_snoc k n, ← hnk]
    show Ev (fun _ => some (rowsOf ⟨k, n, w⟩ ++ [rowR (nmIns (s.data.toList, v) n)], true)) (rowsOf ⟨k, n, w⟩ ++ [rowR (nmPut n s.data.toList v)], !false)
    rw [e2]
    exact Ev.now _
theorem drop_ev {st : FoS} {M : Nat} (h : Rel st M) (hm : M ≤ 100) (s : ByteArray) : Ev (fun k => stylusref09_Drop.f k (rowsOf st) s) (rowsOf (st.drop s), nmHas st.n s.data.toList) ∧ Rel (st.drop s) (M + 1) := by
  obtain ⟨k, n, w⟩ := st
  have hn : n.length ≤ M := h.nn
  have hw : w.length ≤ M := h.w
  have hnk : n = nmRun k w := h.n
  unfold stylusref09_Drop.f
  cases hh : nmHas n s.data.toList with
  | false =>
    have e : (⟨k, n, w⟩ : FoS).drop s = ⟨k, n, w⟩ := by unfold FoS.drop; simp [hh]
    rw [e]
    refine ⟨Ev.call (now_eq h hm) (Ev.bind (find_ev n s (by omega)) ?_), h.mono (Nat.le_succ _)⟩
    rw [hh]
    exact Ev.neg Bool.false_ne_true (Ev.now _)
  | true =>
    have e : (⟨k, n, w⟩ : FoS).drop s = ⟨k, nmDel n s.data.toList, w ++ [⟨true, s, false, ⟨#[]⟩, 0⟩]⟩ := by unfold FoS.drop; simp [hh]
    rw [e]
    refine ⟨Ev.call (now_eq h hm) (Ev.bind (find_ev n s (by omega)) ?_), rel_snoc h _ _ (by rw [← hnk]; rfl)⟩
    rw [hh]
    refine Ev.pos rfl (Ev.call (now_eq h hm) (Ev.bind (without_ev n s (by omega)) (Ev.call (then_eq _ _ (by rw [rows_length]; show w.length + 1 ≤ 1000; omega)) ?_)))
    rw [rows_snoc k n, ← hnk]
    exact Ev.now _
theorem move_ev {st : FoS} {M : Nat} (h : Rel st M) (hm : M ≤ 100) (s t : ByteArray) : Ev (fun k => stylusref09_Move.f k (rowsOf st) s t) (rowsOf (st.move s t), nmHas st.n s.data.toList) ∧ Rel (st.move s t) (M + 1) := by
  obtain ⟨k, n, w⟩ := st
  have hn : n.length ≤ M := h.nn
  have hw : w.length ≤ M := h.w
  have hnk : n = nmRun k w := h.n
  unfold stylusref09_Move.f
  cases hh : nmHas n s.data.toList with
  | false =>
    have e : (⟨k, n, w⟩ : FoS).move s t = ⟨k, n, w⟩ := by
      show (⟨k, mvL n _ _, mvC n w s t⟩ : FoS) = _
      unfold mvL mvC
      simp [hh]
    rw [e]
    refine ⟨Ev.call (now_eq h hm) (Ev.bind (find_ev n s (by omega)) ?_), h.mono (Nat.le_succ _)⟩
    rw [hh]
    exact Ev.neg Bool.false_ne_true (Ev.now _)
  | true =>
    by_cases hst : s.data.toList = t.data.toList
    · have e : (⟨k, n, w⟩ : FoS).move s t = ⟨k, n, w⟩ := by
        show (⟨k, mvL n _ _, mvC n w s t⟩ : FoS) = _
        unfold mvL mvC
        rw [if_neg (fun z => z.2 hst), if_neg (fun z => z.2 hst)]
      rw [e]
      refine ⟨Ev.call (now_eq h hm) (Ev.bind (find_ev n s (by omega)) ?_), h.mono (Nat.le_succ _)⟩
      rw [hh]
      exact Ev.pos rfl (Ev.pos (by rw [ByteArray.toList_eq, ByteArray.toList_eq]; exact hst) (Ev.now _))
    · have e : (⟨k, n, w⟩ : FoS).move s t = ⟨k, nmPut (nmDel n s.data.toList) t.data.toList (nmGet n s.data.toList), w ++ [⟨true, s, true, t, nmGet n s.data.toList⟩]⟩ := by
        show (⟨k, mvL n _ _, mvC n w s t⟩ : FoS) = _
        unfold mvL mvC
        rw [if_pos ⟨hh, hst⟩, if_pos ⟨hh, hst⟩]
      rw [e]
      have h1 := nmDel_le n s.data.toList
      have h2 := nmDel_le (nmDel n s.data.toList) t.data.toList
      refine ⟨Ev.call (now_eq h hm) (Ev.bind (find_ev n s (by omega)) ?_), rel_snoc h _ _ (by rw [← hnk]; rfl)⟩
      rw [hh]
      refine Ev.pos rfl (Ev.neg (fun z => hst (by rw [ByteArray.toList_eq, ByteArray.toList_eq] at z; exact z)) (Ev.call (now_eq h hm) (Ev.bind (without_ev n s (by omega)) (Ev.bind (without_ev _ t (by omega)) (Ev.bind (with_ev _ t _ (by omega)) (Ev.call (then_eq _ _ (by rw [rows_length]; show w.length + 1 ≤ 1000; omega)) ?_))))))
      rw [rows_snoc k n, ← hnk]
      exact Ev.now _
theorem sync_eq {st : FoS} {M : Nat} (h : Rel st M) (hm : M ≤ 100) : stylusref09_Sync.f (rowsOf st) = some (rowsOf st.sync) ∧ Rel st.sync (M + 1) := by
  have e : st.sync = ⟨st.n, st.n, []⟩ := by unfold FoS.sync; rw [← h.n]
  constructor
  · unfold stylusref09_Sync.f
    rw [now_eq h hm, Option.bind_some, e, rows_one]
  · rw [e]
    exact rel_one _ (Nat.le_trans h.nn (Nat.le_succ _))
theorem crash_eq {st : FoS} {M : Nat} (h : Rel st M) (hm : M ≤ 100) (c : Int) : stylusref09_Crash.f (rowsOf st) c = some (rowsOf (st.crash c), crI c st.w.length) ∧ Rel (st.crash c) (M + 1) := by
  have hw := h.w
  have ht := crI_tmod c st.w.length
  have hr := crI_le c st.w.length
  have hl : ((rowsOf st).length : Int) = (st.w.length : Int) + 1 := by rw [rows_length]; omega
  have e1 : wrap64 (Int.tmod c ((st.w.length : Int) + 1) + ((st.w.length : Int) + 1)) = Int.tmod c ((st.w.length : Int) + 1) + ((st.w.length : Int) + 1) := by unfold wrap64; omega
  have e2 : Int.tmod (Int.tmod c ((st.w.length : Int) + 1) + ((st.w.length : Int) + 1)) ((st.w.length : Int) + 1) = crI c st.w.length := by
    rw [Int.tmod_eq_emod_of_nonneg (by omega)]
    unfold crI
    split
    · rw [Int.emod_eq_of_lt (by omega) (by omega)]
    · rw [Int.add_emod_right, Int.emod_eq_of_lt (by omega) (by omega)]
  constructor
  · unfold stylusref09_Crash.f
    rw [hl, e1, e2, if_neg (by omega), if_pos hr.1, if_pos (by omega)]
    have e3 : crI c st.w.length = (((crI c st.w.length).toNat : Nat) : Int) := (Int.toNat_of_nonneg hr.1).symm
    have e4 := rows_at st (crI c st.w.length).toNat (by omega)
    rw [← e3] at e4
    rw [e4]
    unfold FoS.crash
    rw [rows_one]
  · exact rel_one _ (Nat.le_trans (h.r _) (Nat.le_succ _))
theorem step_ev {st : FoS} {M : Nat} (h : Rel st M) (hm : M ≤ 100) (kd n : Int) (s t : ByteArray) : ∃ st', Ev (fun k => stepOf k st (rowsOf st) kd n s t) (st', rowsOf st') ∧ Rel st' (M + 1) := by
  unfold stepOf
  by_cases h0 : kd = 0
  · obtain ⟨e, r⟩ := put_ev h hm s n
    exact ⟨_, Ev.pos h0 (Ev.bind e (Ev.pos rfl (Ev.now _))), r⟩
  by_cases h1 : kd = 1
  · obtain ⟨e, r⟩ := drop_ev h hm s
    exact ⟨_, Ev.neg h0 (Ev.pos h1 (Ev.bind e (Ev.pos rfl (Ev.now _)))), r⟩
  by_cases h2 : kd = 2
  · obtain ⟨e, r⟩ := move_ev h hm s t
    exact ⟨_, Ev.neg h0 (Ev.neg h1 (Ev.pos h2 (Ev.bind e (Ev.pos rfl (Ev.now _))))), r⟩
  by_cases h3 : kd = 3
  · obtain ⟨e, r⟩ := sync_eq h hm
    exact ⟨_, Ev.neg h0 (Ev.neg h1 (Ev.neg h2 (Ev.pos h3 (Ev.call e (Ev.now _))))), r⟩
  by_cases h4 : kd = 4
  · obtain ⟨e, r⟩ := crash_eq h hm n
    exact ⟨_, Ev.neg h0 (Ev.neg h1 (Ev.neg h2 (Ev.neg h3 (Ev.pos h4 (Ev.call e (Ev.pos rfl (Ev.now _))))))), r⟩
  exact ⟨st, Ev.neg h0 (Ev.neg h1 (Ev.neg h2 (Ev.neg h3 (Ev.neg h4 (Ev.now _))))), h.mono (Nat.le_succ _)⟩
theorem stands_ev {st : FoS} {M : Nat} (h : Rel st M) (hm : M ≤ 100) : Ev (fun k => standsOf k st (rowsOf st)) () := by
  have hw := h.w
  have hk := h.k
  have hn := h.nn
  unfold standsOf
  refine Ev.call (now_eq h hm) (Ev.bind (like_ev st.n (by omega)) (Ev.pos rfl (Ev.call (kept_eq st) (Ev.bind (like_ev st.k (by omega)) (Ev.pos rfl (Ev.pos (by rw [rows_length]; unfold wrap64; omega) (Ev.bind (ids_ev (namesOf st) (by rw [names_length]; omega) (fun L hL => ?_)) ?_)))))))
  · obtain ⟨j, _, rfl⟩ := List.mem_map.1 hL
    exact Nat.le_trans (h.r j) (by omega)
  · rw [ids_same]
    refine Ev.bind (ints_ev _ ?_) (Ev.pos rfl (Ev.now _))
    have h1 : ∀ (xs acc : List Int), (xs.foldl (fun l n => idAdd n l) acc).length ≤ acc.length + xs.length := by
      intro xs
      induction xs with
      | nil => exact fun acc => Nat.le_refl _
      | cons a r ih =>
        intro acc
        have := ih (idAdd a acc)
        have := idAdd_le a acc
        simp only [List.foldl_cons, List.length_cons]
        omega
    have h2 := h1 (st.k.map (·.2) ++ (st.w.filter (·.f2)).map (·.f4)) []
    have h3 := List.length_filter_le (·.f2) st.w
    simp only [List.length_append, List.length_map, List.length_nil] at h2
    unfold idsOf idOf
    omega
theorem go_ev : ∀ (l : List S40) (st : FoS) (M : Nat), Rel st M → M + l.length ≤ 100 → (∀ o ∈ l, fitOp o.f0 o.f1 o.f2 o.f3) → ∃ stE, Ev (fun k => playsGo k l st (rowsOf st)) (stE, rowsOf stE) ∧ Rel stE 100
  | [], st, M, h, hm, hf => ⟨st, Ev.now _, h.mono (by simpa using hm)⟩
  | o :: r, st, M, h, hm, hf => by
    simp only [List.length_cons] at hm
    have ho := hf o List.mem_cons_self
    have hr : ∀ x ∈ r, fitOp x.f0 x.f1 x.f2 x.f3 := fun x hx => hf x (List.mem_cons_of_mem _ hx)
    by_cases h5 : o.f0 = 5
    · obtain ⟨stE, e, he⟩ := go_ev r st M h (by omega) hr
      have hp := (put_ev h (by omega) overS 9).2
      refine ⟨stE, ?_, he⟩
      unfold playsGo
      exact Ev.pos ⟨ho, h.few (by omega)⟩ (Ev.pos h5 (Ev.pos (hp.few (by omega)) e))
    · obtain ⟨st', e1, h1⟩ := step_ev h (by omega) o.f0 o.f1 o.f2 o.f3
      obtain ⟨stE, e, he⟩ := go_ev r st' (M + 1) h1 (by omega) hr
      refine ⟨stE, ?_, he⟩
      unfold playsGo
      exact Ev.pos ⟨ho, h.few (by omega)⟩ (Ev.neg h5 (Ev.bind e1 (Ev.pos (h1.few (by omega)) (Ev.bind (stands_ev h1 (by omega)) e))))
theorem FolderPlays : styluslaw09_FolderPlays.Pure := by
  intro l s hl hs
  apply Ev.rounds
  unfold styluslaw09_FolderPlays.f
  by_cases h30 : 30 < l.length
  · exact Ev.pos h30 (Ev.now _)
  refine Ev.neg h30 ?_
  obtain ⟨stE, e, h⟩ := go_ev l ⟨[], [], []⟩ 0 (rel_one [] (Nat.le_refl _)) (by omega) (fun o ho => by
    obtain ⟨_, h1, h2, h3⟩ := hl.2 o ho
    exact ⟨Nat.le_trans h2 (by decide), Nat.le_trans h3 (by decide), h1⟩)
  have hn := h.nn
  exact Ev.bind e (Ev.call (now_eq h (by omega)) (Ev.bind (find_ev stE.n s (by omega)) (Ev.pos ⟨Nat.le_trans hs (by decide), rfl, rfl⟩ (Ev.now _))))
end Go.Proofs.Ytdlnbchgimmmoaa.Pure
