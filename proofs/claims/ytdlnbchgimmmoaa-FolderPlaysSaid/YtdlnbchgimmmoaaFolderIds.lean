/- All numbers of a folder: the page's, and the set's. -/
import Derived.Test.YtdlnbchgimmmoaaPx1
import Derived.Test.YtdlnbchgimmmoaaPx2
import Derived.Test.YtdlnbchgimmmoaaPx6
import Derived.Test.YtdlnbchgimmmoaaPx7
import Derived.Test.YtdlnbchgimmmoaaFolderPl
namespace Go.Proofs.Ytdlnbchgimmmoaa.P
open Go.RowKit Go.Proofs.YtdlnbchgimmmoaaW.PrintWords Go.Proofs.YtdlnbchgimmmoaaW.PrintLast

theorem rd_int (l : List Int) (i : Nat) (h : i < l.length) : rd l (i : Int) = l[i] := by
  unfold rd
  rw [Int.toNat_natCast, List.getD_eq_getElem?_getD, List.getElem?_eq_getElem h]
  rfl
theorem add_done (l : List Int) (n : Int) (hl : l.length ≤ 1000000) : ∀ (d i : Nat) (acc : List Int), i + d = l.length → acc.length ≤ i + 1 → (∀ x ∈ l.drop i, n < x) → Ev (fun k => stylusref09_add.l0 k l n acc true (i : Int)) (acc ++ l.drop i)
  | 0, i, acc, h, ha, hn => by
    have e : l.drop i = [] := List.drop_eq_nil_of_le (by omega)
    rw [e]
    exact Ev.step (f := fun _ => some _) (fun k => by rw [stylusref09_add.l0, if_neg (by omega), if_pos rfl]; simp) (Ev.now _)
  | d + 1, i, acc, h, ha, hn => by
    have hi : i < l.length := by omega
    rw [List.drop_eq_getElem_cons hi] at hn ⊢
    have h1 := hn l[i] (List.mem_cons_self)
    have ih := add_done l n hl d (i + 1) (acc ++ [l[i]]) (by omega) (by simp; omega) (fun x hx => hn x (List.mem_cons_of_mem _ hx))
    refine Ev.to (Ev.step (fun k => by rw [stylusref09_add.l0, if_pos (by omega), if_pos (by omega), rd_int l i hi, if_neg (by omega), if_pos rfl, if_pos (by omega), w64 (x := (i : Int) + 1) (by omega) (by omega)]; rfl) ih) ?_
    simp only [List.append_assoc, List.cons_append, List.nil_append]
theorem add_l (l : List Int) (n : Int) (hl : l.length ≤ 1000000) (hr : l.Pairwise (· < ·)) : ∀ (d i : Nat), i + d = l.length → Ev (fun k => stylusref09_add.l0 k l n (l.take i) false (i : Int)) (l.take i ++ idAdd n (l.drop i))
  | 0, i, h => by
    have e : l.drop i = [] := List.drop_eq_nil_of_le (by omega)
    have hln : (l.take i).length ≤ 1000000 := by rw [List.length_take]; omega
    rw [e]
    exact Ev.step (f := fun _ => some _) (fun k => by rw [stylusref09_add.l0, if_neg (by omega), if_neg Bool.false_ne_true, if_pos (by omega)]; simp [idAdd]) (Ev.now _)
  | d + 1, i, h => by
    have hi : i < l.length := by omega
    have hln : (l.take i).length ≤ i := by rw [List.length_take]; omega
    have hd := List.drop_eq_getElem_cons hi
    have hp : (l[i] :: l.drop (i + 1)).Pairwise (· < ·) := by rw [← hd]; exact hr.sublist (List.drop_sublist _ _)
    by_cases c : l[i] = n
    · have e : l.take i ++ idAdd n (l.drop i) = l := by
        rw [hd]
        unfold idAdd
        rw [if_pos c.symm, ← hd, List.take_append_drop]
      rw [e]
      exact Ev.step (f := fun _ => some l) (fun k => by rw [stylusref09_add.l0, if_pos (by omega), if_pos (by omega), rd_int l i hi, if_pos c]) (Ev.now _)
    · by_cases c2 : n < l[i]
      · have ih := add_done l n hl d (i + 1) (l.take i ++ [n] ++ [l[i]]) (by omega) (by simp; omega) (fun x hx => by have := (List.pairwise_cons.1 hp).1 x hx; omega)
        have e : idAdd n (l.drop i) = n :: l[i] :: l.drop (i + 1) := by
          rw [hd]
          unfold idAdd
          rw [if_neg (fun e => c e.symm), if_pos c2]
        rw [e]
        refine Ev.to (Ev.step (fun k => by rw [stylusref09_add.l0, if_pos (by omega), if_pos (by omega), rd_int l i hi, if_neg c, if_neg Bool.false_ne_true, if_pos (show l[i] > n from c2), if_pos (by omega), Option.bind_some, if_pos (by simp; omega), w64 (x := (i : Int) + 1) (by omega) (by omega)]; rfl) ih) ?_
        simp only [List.append_assoc, List.cons_append, List.nil_append]
      · have ih := add_l l n hl hr d (i + 1) (by omega)
        have e : idAdd n (l.drop i) = l[i] :: idAdd n (l.drop (i + 1)) := by
          rw [hd]
          conv => lhs; unfold idAdd
          rw [if_neg (fun e => c e.symm), if_neg c2]
        have e2 : l.take (i + 1) = l.take i ++ [l[i]] := List.take_succ_eq_append_getElem hi
        rw [e]
        refine Ev.to (Ev.step (fun k => by rw [stylusref09_add.l0, if_pos (by omega), if_pos (by omega), rd_int l i hi, if_neg c, if_neg Bool.false_ne_true, if_neg (show ¬ l[i] > n from c2), if_pos (by omega), w64 (x := (i : Int) + 1) (by omega) (by omega), ← e2]; rfl) ih) ?_
        rw [e2]
        simp only [List.append_assoc, List.cons_append, List.nil_append]
theorem add_ev (l : List Int) (n : Int) (hl : l.length ≤ 1000000) (hr : l.Pairwise (· < ·)) : Ev (fun k => stylusref09_add.f k l n) (idAdd n l) := by
  have := add_l l n hl hr l.length 0 (by omega)
  show Ev (fun k => stylusref09_add.l0 k l n [] false 0) _
  simpa using this
theorem idAdd_le (n : Int) (l : List Int) : (idAdd n l).length ≤ l.length + 1 := by
  induction l with
  | nil => simp [idAdd]
  | cons a r ih =>
    unfold idAdd
    split
    · simp
    · split
      · simp
      · simp; omega
def idRun (xs acc : List Int) : List Int := xs.foldl (fun l n => idAdd n l) acc
def allIds (Q : List Nms) : List Int := Q.flatMap fun L => L.map (·.2)
theorem rd_rows (Q : List Nms) (i : Nat) (h : i < Q.length) : rd_L9 (Q.map rowR) (i : Int) = rowR Q[i] := by
  unfold rd_L9
  rw [Int.toNat_natCast, List.getD_eq_getElem?_getD, List.getElem?_map, List.getElem?_eq_getElem h]
  rfl
theorem ids_in (Q : List Nms) (hQ : Q.length ≤ 1000) (hR : ∀ L ∈ Q, L.length ≤ 1000) (i : Nat) (hi : i < Q.length)
    (IH : ∀ acc : List Int, acc.Pairwise (· < ·) → acc.length ≤ 1000 * (i + 1) → Ev (fun k => stylusref09_IDs.l0 k acc ((i : Int) + 1) (Q.map rowR)) (idRun (allIds (Q.drop (i + 1))) acc)) : ∀ (e j : Nat) (acc : List Int), j + e = Q[i].length → acc.Pairwise (· < ·) → acc.length ≤ 1000 * i + j →
      Ev (fun k => stylusref09_IDs.l1 k acc (i : Int) (j : Int) (Q.map rowR)) (idRun ((Q[i].drop j).map (·.2) ++ allIds (Q.drop (i + 1))) acc)
  | 0, j, acc, h, hr, ha => by
    have hRi := hR Q[i] (List.getElem_mem hi)
    have e : Q[i].drop j = [] := List.drop_eq_nil_of_le (by omega)
    rw [e]
    exact Ev.step (fun k => by rw [stylusref09_IDs.l1, if_pos (by omega), if_pos (by rw [List.length_map]; omega), rd_rows Q i hi, if_neg (by rw [rowR_length]; omega), w64 (x := (i : Int) + 1) (by omega) (by omega)]) (IH acc hr (by omega))
  | e + 1, j, acc, h, hr, ha => by
    have hj : j < Q[i].length := by omega
    have hRi := hR Q[i] (List.getElem_mem hi)
    rw [List.drop_eq_getElem_cons hj]
    have h1 := idAdd_le Q[i][j].2 acc
    have ih := ids_in Q hQ hR i hi IH e (j + 1) (idAdd Q[i][j].2 acc) (by omega) (rise_idAdd _ _ hr) (by omega)
    have hadd := add_ev acc Q[i][j].2 (by have : 1000 * i ≤ 1000 * 1000 := Nat.mul_le_mul_left _ (by omega); omega) hr
    refine Ev.step (f := fun k => (stylusref09_add.f k acc Q[i][j].2).bind fun t => stylusref09_IDs.l1 k t (i : Int) ((j + 1 : Nat) : Int) (Q.map rowR)) (fun k => by rw [stylusref09_IDs.l1, if_pos (by omega), if_pos (by rw [List.length_map]; omega), rd_rows Q i hi, if_pos (by rw [rowR_length]; omega), if_pos (by omega), rd_row Q[i] j hj, w64 (x := (j : Int) + 1) (by omega) (by omega)]; rfl) ?_
    exact Ev.bind hadd ih
theorem ids_out (Q : List Nms) (hQ : Q.length ≤ 1000) (hR : ∀ L ∈ Q, L.length ≤ 1000) : ∀ (d i : Nat) (acc : List Int), i + d = Q.length → acc.Pairwise (· < ·) → acc.length ≤ 1000 * i → Ev (fun k => stylusref09_IDs.l0 k acc (i : Int) (Q.map rowR)) (idRun (allIds (Q.drop i)) acc)
  | 0, i, acc, h, hr, ha => by
    have e : Q.drop i = [] := List.drop_eq_nil_of_le (by omega)
    rw [e]
    exact Ev.step (f := fun _ => some _) (fun k => by rw [stylusref09_IDs.l0, if_neg (by rw [List.length_map]; omega)]; rfl) (Ev.now _)
  | d + 1, i, acc, h, hr, ha => by
    have hi : i < Q.length := by omega
    have ih := ids_in Q hQ hR i hi (fun acc hr ha => ids_out Q hQ hR d (i + 1) acc (by omega) hr ha) Q[i].length 0 acc (by omega) hr (by omega)
    have e : allIds (Q.drop i) = (Q[i].drop 0).map (·.2) ++ allIds (Q.drop (i + 1)) := by
      rw [List.drop_eq_getElem_cons hi]
      rfl
    rw [e]
    exact Ev.step (fun k => by rw [stylusref09_IDs.l0, if_pos (by rw [List.length_map]; omega)]; rfl) ih
theorem ids_ev (Q : List Nms) (hQ : Q.length ≤ 1000) (hR : ∀ L ∈ Q, L.length ≤ 1000) : Ev (fun k => stylusref09_IDs.f k (Q.map rowR)) (idOf (allIds Q)) :=
  ids_out Q hQ hR Q.length 0 [] (by omega) List.Pairwise.nil (Nat.zero_le _)
theorem rise_ext {a b : List Int} (ha : a.Pairwise (· < ·)) (hb : b.Pairwise (· < ·)) (h : ∀ x, x ∈ a ↔ x ∈ b) : a = b :=
  List.Perm.eq_of_pairwise (le := (· < ·)) (fun a b _ _ h1 h2 => by omega) ha hb ((List.perm_ext_iff_of_nodup (ha.imp (fun h => Int.ne_of_lt h)) (hb.imp (fun h => Int.ne_of_lt h))).2 h)
/-! a folder's rows -/
def namesOf (st : FoS) : List Nms := (List.range (st.w.length + 1)).map fun j => nmRun st.k (st.w.take j)
theorem mem_ins (x : List UInt8 × Int) (L : Nms) (p : List UInt8 × Int) : p ∈ nmIns x L ↔ p = x ∨ p ∈ L := by
  induction L with
  | nil => simp [nmIns]
  | cons y r ih =>
    unfold nmIns
    split
    · simp
    · simp only [List.mem_cons, ih]
      constructor
      · rintro (h | h | h) <;> simp [h]
      · rintro (h | h | h) <;> simp [h]
theorem mem_step {L : Nms} {c : Chg} {p : List UInt8 × Int} (h : p ∈ nmStep L c) : p ∈ L ∨ (c.f2 = true ∧ p.2 = c.f4) := by
  have h0 : ∀ q : List UInt8 × Int, q ∈ (if c.f0 = true then nmDel L c.f1.data.toList else L) → q ∈ L := fun q hq => by
    split at hq
    · exact (List.mem_filter.1 (show q ∈ L.filter _ from hq)).1
    · exact hq
  unfold nmStep at h
  dsimp only at h
  by_cases c2 : c.f2 = true
  · rw [if_pos c2] at h
    unfold nmPut at h
    rcases (mem_ins _ _ _).1 h with h | h
    · exact .inr ⟨c2, by rw [h]⟩
    · exact .inl (h0 _ (List.mem_filter.1 (show p ∈ List.filter _ _ from h)).1)
  · rw [if_neg c2] at h
    exact .inl (h0 _ h)
theorem put_step {L : Nms} {c : Chg} (h : c.f2 = true) : (c.f3.data.toList, c.f4) ∈ nmStep L c := by
  unfold nmStep
  dsimp only
  rw [if_pos h]
  exact (mem_ins _ _ _).2 (.inl rfl)
theorem mem_run {L : Nms} {cs : List Chg} {p : List UInt8 × Int} (h : p ∈ nmRun L cs) : p.2 ∈ L.map (·.2) ++ (cs.filter (·.f2)).map (·.f4) := by
  induction cs generalizing L with
  | nil => simpa using ⟨_, h⟩
  | cons c r ih =>
    have h1 := ih (L := nmStep L c) h
    rcases List.mem_append.1 h1 with h1 | h1
    · obtain ⟨q, hq, e⟩ := List.mem_map.1 h1
      rcases mem_step hq with h2 | ⟨h2, h3⟩
      · exact List.mem_append.2 (.inl (List.mem_map.2 ⟨q, h2, e⟩))
      · exact List.mem_append.2 (.inr (by rw [List.filter_cons, if_pos h2]; exact List.mem_map.2 ⟨c, List.mem_cons_self, by rw [← h3]; exact e⟩))
    · refine List.mem_append.2 (.inr ?_)
      obtain ⟨q, hq, e⟩ := List.mem_map.1 h1
      obtain ⟨hq1, hq2⟩ := List.mem_filter.1 hq
      exact List.mem_map.2 ⟨q, List.mem_filter.2 ⟨List.mem_cons_of_mem _ hq1, hq2⟩, e⟩
theorem ids_same (st : FoS) : idOf (allIds (namesOf st)) = idsOf st.k st.w := by
  refine rise_ext (idOf_rise _) (idOf_rise _) (fun x => ?_)
  rw [mem_idOf]
  unfold idsOf
  rw [mem_idOf]
  unfold allIds namesOf
  simp only [List.mem_flatMap, List.mem_map, List.mem_range]
  constructor
  · rintro ⟨L, ⟨j, hj, rfl⟩, p, hp, rfl⟩
    have h1 := mem_run hp
    rcases List.mem_append.1 h1 with h1 | h1
    · exact List.mem_append.2 (.inl h1)
    · obtain ⟨q, hq, e⟩ := List.mem_map.1 h1
      obtain ⟨hq1, hq2⟩ := List.mem_filter.1 hq
      exact List.mem_append.2 (.inr (List.mem_map.2 ⟨q, List.mem_filter.2 ⟨List.mem_of_mem_take hq1, hq2⟩, e⟩))
  · intro h
    rcases List.mem_append.1 h with h | h
    · obtain ⟨p, hp, e⟩ := List.mem_map.1 h
      exact ⟨st.k, ⟨0, by omega, by rw [List.take_zero]; rfl⟩, p, hp, e⟩
    · obtain ⟨c, hc, e⟩ := List.mem_map.1 h
      obtain ⟨hc1, hc2⟩ := List.mem_filter.1 hc
      obtain ⟨j, hj, rfl⟩ := List.getElem_of_mem hc1
      refine ⟨nmRun st.k (st.w.take (j + 1)), ⟨j + 1, by omega, rfl⟩, (st.w[j].f3.data.toList, st.w[j].f4), ?_, e⟩
      rw [nmRun_snoc st.k st.w j hj]
      have e2 : rdChg st.w (j : Int) = st.w[j] := by simp [rdChg, List.getD_eq_getElem?_getD, List.getElem?_eq_getElem hj]
      rw [e2]
      exact put_step hc2
end Go.Proofs.Ytdlnbchgimmmoaa.P
