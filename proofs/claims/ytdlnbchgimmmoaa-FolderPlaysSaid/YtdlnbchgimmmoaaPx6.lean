-- Laid by a program of this session (wip/tools/fork_print.py over the kit's print) out of Lean's print of the translation. Lean checks it.
import Derived.Test.YtdlnbchgimmmoaaPx0
import Derived.Maps.Ext
import Derived.Maps.RangeWalk
import Derived.Test.YtdlnbchgimmmoaaShelf
import Derived.Test.YtdlnbchgimmmoaaPx1
import Derived.Test.YtdlnbchgimmmoaaPx2
namespace Go.Proofs.Ytdlnbchgimmmoaa.P
open Go.RowKit Go.Proofs.YtdlnbchgimmmoaaW.PrintWords Go.Proofs.YtdlnbchgimmmoaaW.PrintLast Go.Proofs.YtdlnbchgimmmoaaW.PrintMore
attribute [local go_sem] max2_int min2_int max_two min_two max_three min_three max_four min_four   -- for this text's walks alone
set_option linter.unusedVariables false
set_option linter.unusedSimpArgs false

/-! ### folder_Folder_IDs: function 23 -/
-- NEEDS (*stylus/folder.Folder).settle
-- IMPORT Derived.Test.YtdlnbchgimmmoaaShelf
-- IMPORT Derived.Maps.Ext
-- IMPORT Derived.Maps.RangeWalk
theorem id_keys (mb : Option Nat) (w : World) : Calls Try.prog 40 #[.map mb] w fun e w' => e = .returned (.func (.func 51) #[] #[.pointer (some ⟨w.heap.size, 0, none⟩)]) ∧ w' = w.alloc (.cells #[.map mb] 75) :=
  (callsIn_wide (n := 5)).1 (Go.Proofs.AnyZI.keys_in Try.keysI Fence.wide 5 trivial rfl mb w)
theorem id_sorts (m : Nat) : Go.Proofs.AnyZI.SortsIn Try.prog Try.sortedI_ren Fence.wide m :=
  ⟨fun blk off cap ss W hH hblk hsz => callsIn_wide.2 (Go.Proofs.AnyM.slices_Sort_int Try.sortI blk off cap ss W hH hblk hsz),
   fun p cap W => callsIn_wide.2 (Go.Proofs.AnyM.slices_Sort_int_none Try.sortI p cap W)⟩
set_option maxHeartbeats 1000000 in
theorem id_sorted0 (b nn : Nat) (D0 : DataW Unit) (R : Value → Option (DataW Unit × List MemPlace)) (w : World) (hown : w.ownsMap Try.prog 3 R b nn D0) (hmax : Maps.size D0 ≤ maxLen) (hbytes : Maps.size D0 * 8 ≤ 140737488355328) :
    Calls Try.prog 39 #[.func (.func 51) #[] #[.pointer (some ⟨w.heap.size, 0, none⟩)]] (w.alloc (.cells #[.map (some b)] 75)) fun e w' => ∃ (v : Value) (ss : List Int), e = .returned v ∧ ss.Perm (intKeys D0) ∧
      w'.ownsRow (w.alloc (.cells #[.map (some b)] 75)).heap.size 3 1 v ss.length ((ss.mergeSort (fun x y => decide (x ≤ y))).map encZ) ∧ (v = .slice none 0 0 ↔ ss = []) ∧ Below (w.alloc (.cells #[.map (some b)] 75)).heap.size (w.alloc (.cells #[.map (some b)] 75)) w' := by
  have hbl := hown.lt
  have hseq : SeqGives Fence.wide 2 Try.prog 51 #[.pointer (some ⟨w.heap.size, 0, none⟩)] encZ (fun ss => ss.Perm (intKeys D0)) (Maps.size D0) (w.alloc (.cells #[.map (some b)] 75)) :=
    Go.Proofs.AnyZI.keys_gives (ρ := Try.keysI_ren) { Try.keysI with } Fence.wide _ trivial rfl (by omega) w.heap.size b nn D0 _ (by simp) (by simp) (by
      obtain ⟨es, clock, hb, Ft, hs, hD⟩ := hown
      exact ⟨es, clock, (Below.heap_alloc _ _ b hbl).trans hb, Ft, hs, hD⟩)
  exact (callsIn_wide (n := 5)).1 (Go.Proofs.AnyZI.sorted_in Try.sortedI Fence.wide 5 trivial trivial trivial trivial rfl (by omega) (id_sorts _) (enters_of Try.func50 (by kernel_rfl) rfl) 51 #[.pointer (some ⟨w.heap.size, 0, none⟩)] trivial (enters_of Try.func51 (by kernel_rfl) rfl) _ _ hmax hbytes _ hseq)
/-! numbers, rising, each once -/
def idAdd (n : Int) : List Int → List Int
  | [] => [n]
  | a :: r => if n = a then a :: r else if n < a then n :: a :: r else a :: idAdd n r
def idOf (xs : List Int) : List Int := xs.foldl (fun l n => idAdd n l) []
def idsOf (L0 : Nms) (cs : List Chg) : List Int := idOf (L0.map (·.2) ++ (cs.filter (·.f2)).map (·.f4))
theorem mem_idAdd (n x : Int) (l : List Int) : x ∈ idAdd n l ↔ x = n ∨ x ∈ l := by
  induction l with
  | nil => simp [idAdd]
  | cons a r ih =>
    unfold idAdd
    split
    · rename_i h
      subst h
      simp
    · split
      · simp
      · simp only [List.mem_cons, ih]
        constructor
        · rintro (h | h | h) <;> simp [h]
        · rintro (h | h | h) <;> simp [h]
theorem rise_idAdd (n : Int) (l : List Int) (h : l.Pairwise (· < ·)) : (idAdd n l).Pairwise (· < ·) := by
  induction l with
  | nil => simp [idAdd]
  | cons a r ih =>
    obtain ⟨h1, h2⟩ := List.pairwise_cons.1 h
    unfold idAdd
    split
    · exact h
    · split
      · rename_i h3 h4
        exact List.pairwise_cons.2 ⟨fun b hb => by
          rcases List.mem_cons.1 hb with rfl | hb
          · exact h4
          · have := h1 b hb; omega, h⟩
      · rename_i h3 h4
        exact List.pairwise_cons.2 ⟨fun b hb => by
          rcases (mem_idAdd n b r).1 hb with rfl | hb
          · omega
          · exact h1 b hb, ih h2⟩
theorem idOf_fold (xs l : List Int) (h : l.Pairwise (· < ·)) : (xs.foldl (fun l n => idAdd n l) l).Pairwise (· < ·) ∧ ∀ x, x ∈ xs.foldl (fun l n => idAdd n l) l ↔ x ∈ l ∨ x ∈ xs := by
  induction xs generalizing l with
  | nil => exact ⟨h, fun x => by simp⟩
  | cons a r ih =>
    obtain ⟨h1, h2⟩ := ih (idAdd a l) (rise_idAdd a l h)
    refine ⟨h1, fun x => ?_⟩
    rw [List.foldl_cons, h2 x, mem_idAdd, List.mem_cons]
    constructor
    · rintro ((h | h) | h) <;> simp [h]
    · rintro (h | h | h) <;> simp [h]
theorem idOf_rise (xs : List Int) : (idOf xs).Pairwise (· < ·) := (idOf_fold xs [] List.Pairwise.nil).1
theorem mem_idOf (xs : List Int) (x : Int) : x ∈ idOf xs ↔ x ∈ xs := by
  rw [idOf, (idOf_fold xs [] List.Pairwise.nil).2 x]
  simp
theorem id_sort {w : World} {b n : Nat} {D : DataW Unit} {R : Value → Option (DataW Unit × List MemPlace)} (h : w.ownsMap Try.prog 3 R b n D) {ss l : List Int} (hp : ss.Perm (intKeys D)) (hr : l.Pairwise (· < ·)) (hm : ∀ x, x ∈ l ↔ Maps.has D (.int .i64 x) = true) :
    ss.mergeSort (fun x y => decide (x ≤ y)) = l := by
  obtain ⟨es, hD, hpw, _⟩ := h.entries (Maps.int_keyed Try.underlying3)
  obtain ⟨es', hD', hko⟩ := h.keysOf
  obtain rfl : es = es' := by rw [hD] at hD'; simpa using hD'
  subst hD
  have h1 := perm_intKeys hpw (fun p hp => by obtain ⟨v, hv⟩ := hko p hp; obtain ⟨x, _, hx, _⟩ := Maps.keyOf_i64 Try.underlying3 hv; exact ⟨x, hx⟩) (hr.imp (fun h => Int.ne_of_lt h)) hm
  have h2 := mergeSort_of_perm_i (hp.trans h1.symm)
  have h3 : l.mergeSort leI = l := List.mergeSort_of_pairwise (hr.imp (fun h => decide_eq_true (Int.le_of_lt h)))
  exact h2.trans h3
/-- The set has just these numbers. -/
def Seen (D : DataW Unit) (φ : Int → Prop) : Prop := Maps.IsMap D ∧ ∀ n, Maps.has D (.int .i64 n) = true ↔ φ n
theorem seen_put {D : DataW Unit} {φ : Int → Prop} (h : Seen D φ) (x : Int) (d : DataW Unit) : Seen (D.put (.int .i64 x) d) (fun n => φ n ∨ n = x) := by
  refine ⟨h.1.put _ _, fun n => ?_⟩
  by_cases e : n = x
  · subst e
    rw [Maps.has_put_same h.1 (show WideAt.IsKeyLit (.int .i64 n) from trivial)]
    simp
  · rw [Maps.has_put_other (fun e2 => e (by injection e2))]
    rw [h.2 n]
    simp [e]
theorem seen_iff {D : DataW Unit} {φ ψ : Int → Prop} (h : Seen D φ) (e : ∀ n, φ n ↔ ψ n) : Seen D ψ := ⟨h.1, fun n => (h.2 n).trans (e n)⟩
theorem set_law : Maps.Keyed Try.prog 3 := Maps.int_keyed Try.underlying3
abbrev SetAt (w : World) (b n : Nat) (D : DataW Unit) : Prop := w.ownsMap Try.prog 3 (plainElem Try.prog 3) b n D
def came (L0 : Nms) (left : Lit → Bool) (n : Int) : Prop := ∃ p ∈ L0, p.2 = n ∧ left (.string p.1) = false
theorem came_start (L0 : Nms) : Seen (.map []) (came L0 (Maps.has (Dt L0))) := ⟨⟨[], rfl⟩, fun n => ⟨fun h => by simp [Maps.has] at h, fun ⟨p, hp, _, h⟩ => by
  rw [Dt_has] at h
  have : nmHas L0 p.1 = true := List.any_eq_true.2 ⟨p, hp, by simp⟩
  rw [this] at h
  cases h⟩⟩
theorem came_step {L0 : Nms} {w : World} {b : Nat} (hr : L0.Pairwise (fun p q => bytesBefore p.1 q.1 = true)) {left : Lit → Bool} {D : DataW Unit} (h : Seen D (came L0 left)) {s : List UInt8} {c : Int} (hat : ∀ zd, (Dt L0).atKey (.string s) zd = .lit (.int .i64 c)) (d : DataW Unit) :
    Seen (D.put (.int .i64 c) d) (came L0 (fun z => left z && !z.sameKey (.string s))) := by
  have h1 := Maps.has_true_of_atKey hat
  rw [Dt_has] at h1
  have h2 := hat (.lit (.int .i64 0))
  rw [Dt_get] at h2
  have h3 : nmGet L0 s = c := by injection h2 with h2; injection h2
  obtain ⟨p0, hp0, e0⟩ := List.any_eq_true.1 h1
  have e0 : p0.1 = s := beq_iff_eq.1 e0
  refine seen_iff (seen_put h c d) (fun n => ⟨?_, ?_⟩)
  · rintro (⟨p, hp, e1, e2⟩ | rfl)
    · exact ⟨p, hp, e1, by simp [e2]⟩
    · refine ⟨p0, hp0, ?_, by simp [e0, Lit.sameKey]⟩
      rw [← h3, ← e0, nm_at hr hp0]
  · rintro ⟨p, hp, e1, e2⟩
    by_cases e : p.1 = s
    · right
      rw [← e1, ← nm_at hr hp, e, h3]
    · left
      refine ⟨p, hp, e1, ?_⟩
      have : (Lit.string p.1).sameKey (.string s) = false := beq_eq_false_iff_ne.2 e
      dsimp only at e2
      rw [this] at e2
      simpa using e2
theorem came_end {L0 : Nms} {left : Lit → Bool} {D : DataW Unit} (h : Seen D (came L0 left)) (hl : ∀ kl, left kl = false) : Seen D (fun n => n ∈ L0.map (·.2) ++ (([] : List Chg).filter (·.f2)).map (·.f4)) :=
  seen_iff h (fun n => by
    simp only [List.filter_nil, List.map_nil, List.append_nil, List.mem_map]
    constructor
    · rintro ⟨p, hp, e, _⟩; exact ⟨p, hp, e⟩
    · rintro ⟨p, hp, e⟩; exact ⟨p, hp, e, hl _⟩)
theorem ids_no {L0 : Nms} {cs : List Chg} {i : Nat} (h : i < cs.length) {D : DataW Unit} (hs : Seen D (fun n => n ∈ L0.map (·.2) ++ ((cs.take i).filter (·.f2)).map (·.f4))) (hc : (rdChg cs (i : Int)).f2 = false) : Seen D (fun n => n ∈ L0.map (·.2) ++ ((cs.take (i + 1)).filter (·.f2)).map (·.f4)) := by
  have e : rdChg cs (i : Int) = cs[i] := by simp [rdChg, List.getD_eq_getElem?_getD, List.getElem?_eq_getElem h]
  rw [e] at hc
  refine seen_iff hs (fun n => ?_)
  rw [List.take_succ_eq_append_getElem h, List.filter_append]
  simp [hc]
theorem ids_yes {L0 : Nms} {cs : List Chg} {i : Nat} (h : i < cs.length) {D : DataW Unit} (hs : Seen D (fun n => n ∈ L0.map (·.2) ++ ((cs.take i).filter (·.f2)).map (·.f4))) (hc : (rdChg cs (i : Int)).f2 = true) (d : DataW Unit) :
    Seen (D.put (.int .i64 (rdChg cs (i : Int)).f4) d) (fun n => n ∈ L0.map (·.2) ++ ((cs.take (i + 1)).filter (·.f2)).map (·.f4)) := by
  have e : rdChg cs (i : Int) = cs[i] := by simp [rdChg, List.getD_eq_getElem?_getD, List.getElem?_eq_getElem h]
  rw [e] at hc ⊢
  refine seen_iff (seen_put hs _ d) (fun n => ?_)
  rw [List.take_succ_eq_append_getElem h, List.filter_append]
  simp only [List.mem_append, List.map_append, List.filter_cons, hc, if_true, List.filter_nil, List.map_cons, List.map_nil, List.mem_singleton]
  constructor
  · rintro ((h | h) | h) <;> simp [h]
  · rintro (h | h | h) <;> simp [h]
theorem id_sorted (b n : Nat) (D : DataW Unit) (l : List Int) (hn : n ≤ 3000000) (hr : l.Pairwise (· < ·)) (hm : Seen D (fun x => x ∈ l)) (w : World) (h : SetAt w b n D) :
    Calls Try.prog 39 #[.func (.func 51) #[] #[.pointer (some ⟨w.heap.size, 0, none⟩)]] (w.alloc (.cells #[.map (some b)] 75)) fun e w' => ∃ v : Value, e = .returned v ∧
      Kd.R (Kd.int .i64) 3 w' w.heap.size (fun _ => True) v l ∧ Below w.heap.size w w' := by
  have hz := h.size_le
  refine (id_sorted0 b n D _ w h (by unfold maxLen; omega) (by omega)).mono ?_
  rintro e w' ⟨v, ss, rfl, hp, ho, _, hb⟩
  have hs := id_sort h hp hr (fun x => (hm.2 x).symm)
  have hl : ss.length = l.length := by rw [← hs, List.length_mergeSort]
  rw [hs, hl] at ho
  exact ⟨v, rfl, Kd.R_of_own (own_weaken ho (by simp)) (fun _ _ => trivial), below_step (below_alloc (Below.refl _ _) _) hb⟩
theorem nm_offS {W : World} {b e base n : Nat} {ok : Nat → Prop} {v : Value} {xs : List Chg} {D : DataW Unit} (h : SetAt W b n D) (hR : Kd.R kChg e W base ok v xs) : Kd.R kChg e W base (fun k => ok k ∧ k ≠ b) v xs :=
  Kd.R_mono (Kd.R_bound hR) (fun k hk => ⟨hk.1, by
    obtain ⟨_, _, _, q, _, cells, hc⟩ := hk
    obtain ⟨es, clock, hb, _⟩ := h
    rintro rfl
    rw [hc] at hb
    cases hb⟩)
theorem ids_all {L0 : Nms} {cs : List Chg} {D : DataW Unit} (h : Seen D (fun n => n ∈ L0.map (·.2) ++ ((cs.take cs.length).filter (·.f2)).map (·.f4))) : Seen D (fun x => x ∈ idsOf L0 cs) := by
  rw [List.take_length] at h
  exact seen_iff h (fun n => (mem_idOf _ n).symm)
theorem name_key {s : ByteArray} {kl : Lit} (h : keyOf Try.prog 9 (.string s) = some kl) : kl = .string s.data.toList := by
  obtain ⟨s', e, rfl, _⟩ := Go.WideMaps.string_of_keyOf Try.underlying9 h
  cases e
  rfl
theorem name_invK (key : Value) (kl : Lit) (h : keyOf Try.prog 9 key = some kl) : ∃ x : ByteArray, key = .string x := by
  obtain ⟨s', e, _, _⟩ := Go.WideMaps.string_of_keyOf Try.underlying9 h
  exact ⟨s', e⟩
theorem name_invV (v : Value) (y : DataW Unit × List MemPlace) (h : plainElem Try.prog 3 v = some y) : ∃ x : Int, v = .int .i64 x := by
  obtain ⟨a, rfl, _, _⟩ := plainElem_int_inv Try.underlying3 h
  exact ⟨a, rfl⟩
set_option maxHeartbeats 8000000 in
set_option maxRecDepth 100000 in
theorem folder_Folder_IDs.calls (S : Nat → Prop) (b : Nat) (L0 L : Nms) (cs : List Chg) (hl : L0.length + cs.length ≤ 1000000) (w : World) (h : Fo w S b L0 L cs) :
    Calls Try.prog 23 #[.pointer (some ⟨b, 0, none⟩)] w fun e w' => ∃ v : Value, e = .returned v ∧ Kd.R (Kd.int .i64) 3 w' w.heap.size (fun _ => True) v (idsOf L0 cs) ∧ Below w.heap.size w w' := by
  have huF := Try.underlying52
  have huC := Try.underlying60
  have hmm := @run_makeMap Try.prog
  have hm := folder_Folder_none.made b w h.cell
  obtain ⟨kb, nb, A, cap, hb, _, _, hk, _, hR, hok⟩ := h
  have hkl := hk.lt
  have hz := Dt_size L0
  have e1 : (w.alloc (.map #[] 0)).heap.size = w.heap.size + 1 := by simp
  have c0 := (blk_cell (blk_alloc hb (.map #[] 0)) 0).trans rfl
  have KG := Aside0.mk hb
  have HK := Aside0.mk hk
  have HR := Aside0.mk hR
  have HOK := Aside0.mk hok
  have HRI := Aside0.mk (nm_rising hk)
  clear hb hR hok
  go_enter Try.func23, Try.ntmps23
  go_wp2_with (first
    | (go_at_call 24; (with_reducible refine hm.mono ?_); clear hm; rintro e w2 ⟨rfl, hw2⟩; obtain rfl := hw2.symm)
    | (at_range; refine wpList_range_own _ rfl _ 49 rfl 9 3 nm_law Try.underlying49 _ kb L0.length _ rfl (hk.alloc _) ?_; intro w0 hrg0 hg0 hs0)
    | go_in)
  go_frame
  rw [hz] at hrg0
  rw [e1] at hrg0 hs0 ⊢
  go_loopw [5] (fun _ wr => ∃ (left : Lit → Bool) (cnt : Nat) (D : DataW Unit), wr.ranges Try.prog 9 (plainElem Try.prog 3) kb (w.heap.size + 1) L0.length (Dt L0) left cnt ∧ cnt ≤ L0.length ∧
      SetAt wr w.heap.size (L0.length - cnt) D ∧ Seen D (came L0 left) ∧ Below w.heap.size w wr)
    (fun _ wr => wr.rangeLeft kb (w.heap.size + 1))
  case atStart =>
    exact ⟨_, _, .map [], hrg0, Nat.le_refl _, ((World.ownsMap_made _ _ _ _).kept hg0 (by simp)).mono (Nat.zero_le _), came_start L0, ((Below.refl _ _).alloc (Nat.le_refl _) _).grown hg0 (by simp) (fun j hj => by cases hj)⟩
  case round =>
    obtain ⟨left, cnt, D, hrg, hcs, hset, hA, hnx⟩ := hrel
    go_wp2_with (first
      | (at_next; refine wpList_next_ranges _ rfl _ rfl 9 nm_law (plainElem Try.prog 3) Value.string (Value.int .i64) name_invK name_invV kb (w.heap.size + 1) L0.length _ _ _ rfl hrg ?_ ?_)
      | go_in)
    · intro hc0 hl0
      have hsz : w.heap.size < wr.heap.size := hset.lt
      have c2 := (blk_cell (blk_below KG.out hnx) 2).trans rfl
      have HR2 := Aside0.mk (Kd.R_below HR.out hnx)
      have HS := Aside0.mk (show SetAt wr w.heap.size (L0.length + 0) D from hset.mono (by omega))
      have HA := Aside0.mk (came_end hA hl0)
      have HB := Aside0.mk hnx
      clear hc0 hl0 hset hA hnx hrg hcs hg0 hs0 hrg0 e1 hmm hk hkl hz
      go_wp2_with fail
      go_loopw [29] (fun x wq => ∃ i : Nat, x = .int .i64 i ∧ i ≤ cs.length ∧ ∃ D : DataW Unit, Aside0 (SetAt wq w.heap.size (L0.length + i) D) ∧ Aside0 (Seen D (fun n => n ∈ L0.map (·.2) ++ ((cs.take i).filter (·.f2)).map (·.f4))) ∧ Aside0 (Kd.R kChg 60 wq 0 S (.slice A cs.length cap) cs ∧ wr.heap.size ≤ wq.heap.size) ∧ Aside0 (Below w.heap.size w wq)) (fun x _ => cs.length - (intOf x).toNat)
      case atStart => exact ⟨0, rfl, Nat.zero_le _, D, HS, HA, ⟨HR2.out, Nat.le_refl _⟩, HB⟩
      case round =>
        obtain ⟨i, rfl, hi, D, HS, HA, HR2, HB⟩ := hrel
        by_cases q : i < cs.length
        · have p0 : (0 : Int) ≤ (i : Int) := Int.natCast_nonneg _
          have q0 : (i : Int) < (cs.length : Int) := by omega
          obtain ⟨ad0, e0, hx0, hx1, hx2, hx3, hx4⟩ := at_Chg (Kd.R_reads' HR2.out.1).2.2 (i : Int) p0 q0
          cases e0
          simp only [Int.toNat_natCast] at hx0 hx1 hx2 hx3 hx4
          have hwf := (HOK.out _ (rdChg_mem cs i q)).2.2
          have hRb := Aside0.mk (Kd.R_mono (ok' := fun k => S k ∧ k ≠ w.heap.size) (nm_offS HS.out HR2.out.1) (fun _ h => h))
          cases hc2 : (rdChg cs (i : Int)).f2 with
          | false =>
            have HN := Aside0.mk (ids_no q HA.out hc2)
            clear HA
            generalize rdChg cs (i : Int) = c at *
            go_wp2_with fail
            go_roundw
            case rel => exact ⟨i + 1, by go_num, by omega, D, ⟨(HS.out.alloc _).mono (by omega)⟩, HN, ⟨Kd.R_alloc HR2.out.1 _, Nat.le_trans HR2.out.2 (by simp)⟩, ⟨below_alloc HB.out _⟩⟩
            case measure => simp [intOf]; omega
          | true =>
            have HY := Aside0.mk (fun d => ids_yes q HA.out hc2 d)
            clear HA
            generalize rdChg cs (i : Int) = c at *
            have hset1 := HS.out.alloc (.cells #[.bool c.f0, .string c.f1, .bool true, .string c.f3, .int .i64 c.f4] 60)
            have HB1 := Aside0.mk (below_alloc HB.out (.cells #[.bool c.f0, .string c.f1, .bool true, .string c.f3, .int .i64 c.f4] 60))
            have HR1 := Aside0.mk (Kd.R_alloc hRb.out (.cells #[.bool c.f0, .string c.f1, .bool true, .string c.f3, .int .i64 c.f4] 60))
            go_wp2_with (first
              | (at_lookup; refine wpList_lookup_own_int _ rfl _ _ 75 rfl 3 3 .i64 set_law Try.underlying75 Try.underlying3 (nm_zero _) w.heap.size _ _ rfl hset1 _ _ rfl (Go.Maps.keyOf_int_mk Try.underlying3 hwf) ?_; intro c2 hat2 hwc2)
              | (at_mapUpdate; refine wpList_mapUpdate_own _ rfl _ _ _ 75 rfl 3 3 set_law Try.underlying75 _ w.heap.size _ _ rfl hset1 (by unfold maxLen; omega) _ _ _ rfl rfl (Go.Maps.keyOf_int_mk Try.underlying3 hwf) _ [] (plainElem_int Try.underlying3 (wrap64_wf _)) ?_; intro w2 hset2 hg2; go_frame)
              | go_in)
            go_roundw
            case rel => exact ⟨i + 1, by go_num, by omega, _, ⟨hset2.mono (by omega)⟩, ⟨HY.out _⟩, ⟨Kd.R_mono (Kd.R_grown HR1.out hg2 (fun k hk e => hk.2 (Option.some.inj e))) (fun _ h => h.1), Nat.le_trans (Nat.le_trans HR2.out.2 (by simp)) hg2.size⟩, ⟨HB1.out.grown hg2 HB1.out.size (fun j hj => by cases hj; exact Nat.le_refl _)⟩⟩
            case measure => simp [intOf]; omega
        · obtain rfl : i = cs.length := by omega
          have HIK := Aside0.mk (id_keys (some w.heap.size) wr)
          have HIS := Aside0.mk (id_sorted w.heap.size _ D (idsOf L0 cs) (by omega) (idOf_rise _) (ids_all HA.out) wr HS.out)
          go_wp2_with (first
            | (go_at_call 40; (with_reducible refine HIK.out.mono ?_); rintro e w7 ⟨rfl, rfl⟩)
            | (go_at_call 39; (with_reducible refine HIS.out.mono ?_); rintro e w8 ⟨v8, rfl, hR8, hb8⟩))
          go_ret
          exact ⟨_, rfl, Kd.R_lower hR8 HB.out.size, below_step HB.out hb8⟩
    · intro s c kl yd yp w1 cnt1 hkey hlk hv hat hrg1 hlt hg1 hs1 hen
      obtain rfl := name_key hkey
      obtain ⟨c', ec, hy, hwc⟩ := plainElem_int_inv Try.underlying3 hv
      cases ec
      cases hy
      have hset1 := hset.kept hg1 (by simp)
      clear hv hkey
      go_wp2_with (first
        | (at_lookup; refine wpList_lookup_own_int _ rfl _ _ 75 rfl 3 3 .i64 set_law Try.underlying75 Try.underlying3 (nm_zero _) w.heap.size _ _ rfl hset1 _ _ rfl (Go.Maps.keyOf_int_mk Try.underlying3 hwc) ?_; intro c2 hat2 hwc2)
        | (at_mapUpdate; refine wpList_mapUpdate_own _ rfl _ _ _ 75 rfl 3 3 set_law Try.underlying75 _ w.heap.size _ _ rfl hset1 (by unfold maxLen; omega) _ _ _ rfl rfl (Go.Maps.keyOf_int_mk Try.underlying3 hwc) _ [] (plainElem_int Try.underlying3 (wrap64_wf _)) ?_; intro w2 hset2 hg2; go_frame)
        | go_in)
      have hrg2 := hrg1.kept hg2 (fun e => by have := Option.some.inj e; omega) (fun e => by have := Option.some.inj e; omega)
      go_roundw
      case rel =>
        exact ⟨_, cnt1, _, hrg2, by omega, hset2.mono (by omega), came_step (w := w) (b := b) HRI.out hA hat _,
          (hnx.grown hg1 hnx.size (fun j hj => by cases hj; exact Nat.le_succ _)).grown hg2 (by have := hnx.size; omega) (fun j hj => by cases hj; exact Nat.le_refl _)⟩
      case measure => rw [hrg2.left_eq, hrg.left_eq]; exact hlt

/-! ### styluslaw09_like: function 34 -/
def styluslaw09_like.l0 : Nat → List (S84) → List (S74) → Int → Option (Bool)
  | 0, _, _, _ => none
  | k + 1, x0, x1, x5 => if x5 < (x0.length : Int) then (if 0 ≤ x5 then (if x5 < (x1.length : Int) then (if ((rd_T84 x0 x5).f0).toList = ((rd_T74 x1 x5).f0).toList then (if ((rd_T84 x0 x5).f1) = ((rd_T74 x1 x5).f1) then (styluslaw09_like.l0 k x0 x1 (wrap64 (x5 + 1))) else (some false)) else (some false)) else (none)) else (none)) else (some true)
def styluslaw09_like.f (k : Nat) (l0 : List (S84)) (l1 : List (S74)) : Option (Bool) := if (l0.length : Int) = (l1.length : Int) then (styluslaw09_like.l0 k l0 l1 0) else (some false)
theorem styluslaw09_like.mono_l : ∀ k, (∀ y0 y1 y2, LeO (styluslaw09_like.l0 k y0 y1 y2) (styluslaw09_like.l0 (k + 1) y0 y1 y2))
  | 0 => fun _ _ _ r h => by simp [styluslaw09_like.l0] at h
  | k + 1 => by
    have ih0 := styluslaw09_like.mono_l k
    · intro y0 y1 y2
      unfold styluslaw09_like.l0
      repeat' first
      | (with_reducible exact ih0 _ _ _)
      | (with_reducible exact LeO.refl _)
      | (with_reducible exact LeO.none _)
      | (with_reducible refine LeO.ite ?_ ?_)
      | (with_reducible refine LeO.bind ?_ (fun _ => ?_))
      | exact ih0 _ _ _
      | exact LeO.none _
      | refine LeO.ite ?_ ?_
      | refine LeO.bind ?_ (fun _ => ?_)
theorem styluslaw09_like.mono : ∀ a0 a1 k, LeO (styluslaw09_like.f k a0 a1) (styluslaw09_like.f (k + 1) a0 a1) := by
  intro a0 a1 k
  have ih0 := styluslaw09_like.mono_l k
  unfold styluslaw09_like.f
  repeat' first
      | (with_reducible exact ih0 _ _ _)
      | (with_reducible exact LeO.refl _)
      | (with_reducible exact LeO.none _)
      | (with_reducible refine LeO.ite ?_ ?_)
      | (with_reducible refine LeO.bind ?_ (fun _ => ?_))
      | exact ih0 _ _ _
      | exact LeO.none _
      | refine LeO.ite ?_ ?_
      | refine LeO.bind ?_ (fun _ => ?_)
set_option maxHeartbeats 8000000 in
set_option maxRecDepth 100000 in
theorem styluslaw09_like.calls (k : Nat) (A0 : Option Addr) (c0 : Nat) (l0 : List (S84)) (A1 : Option Addr) (c1 : Nat) (l1 : List (S74)) (r : Bool) (w : World) (hr0 : Kd.C k84 w A0 l0.length l0) (hc0 : l0.length ≤ c0) (hr1 : Kd.C k74 w A1 l1.length l1) (hc1 : l1.length ≤ c1) (h : styluslaw09_like.f k l0 l1 = some r) :
    Calls Try.prog 34 #[.slice A0 l0.length c0, .slice A1 l1.length c1] w fun e w' => e = .returned (.bool r) ∧ Drawn0 w w' := by
  have HR0 := Aside0.mk hr0
  have HC0 := Aside0.mk hc0
  clear hr0 hc0
  have HR1 := Aside0.mk hr1
  have HC1 := Aside0.mk hc1
  clear hr1 hc1
  have H : (if (l0.length : Int) = (l1.length : Int) then (styluslaw09_like.l0 k l0 l1 0) else (some false)) = some r := h
  clear h
  by_cases c3 : (l0.length : Int) = (l1.length : Int)
  · rw [if_pos c3] at H
    have c3b0 : ((l0.length : Int) == (l1.length : Int)) = true := beq_iff_eq.mpr c3
    have c3b1 : ((l0.length : Int) != (l1.length : Int)) = false := bne_eq_false_iff_eq.mpr c3
    have c3b2 : (l0.length == l1.length) = true := by first | simpa using c3 | (simp at c3 ⊢; omega)
    clear c3
    have H' := Aside0.mk H
    clear H
    go_enter Try.func34, Try.ntmps34
    go_wp2
    repeat (go_quiet (fail); try go_wp2)
    go_loopg [5] k (fun kq v5 w' => ∃ (x5_1 : Int), v5 = .int .i64 x5_1 ∧ Aside0 (styluslaw09_like.l0 kq l0 l1 x5_1 = some r) ∧ Aside0 (kq ≤ k) ∧ Drawn0 w w')
    case atStart => exact ⟨(0), (by first | rfl | (simp; done) | (simp [*]; done)), H', ⟨Nat.le_refl _⟩, by repeat (first | exact Drawn0.refl _ | apply Drawn0.step)⟩
    case round =>
      clear H'
      try clear c1
      try clear p2
      try clear c3
      try clear c3b0
      try clear c3b1
      try clear c3b2
      obtain ⟨x5_1, rfl, HA, HK1, ⟨m1, rfl⟩⟩ := hrel
      cases gk with
      | zero => exact absurd HA.out (by simp [styluslaw09_like.l0])
      | succ k1 =>
        have H := HA.out
        clear HA
        simp only [styluslaw09_like.l0] at H
        by_cases c4 : x5_1 < (l0.length : Int)
        · rw [if_pos c4] at H
          have c4b0 : decide (x5_1 < (l0.length : Int)) = true := decide_eq_true c4
          clear c4
          by_cases c5 : 0 ≤ x5_1
          · rw [if_pos c5] at H
            have c5b0 : decide (0 ≤ x5_1) = true := decide_eq_true c5
            clear c5
            by_cases c6 : x5_1 < (l1.length : Int)
            · rw [if_pos c6] at H
              have c6b0 : decide (x5_1 < (l1.length : Int)) = true := decide_eq_true c6
              clear c6
              by_cases c7 : ((rd_T84 l0 x5_1).f0).toList = ((rd_T74 l1 x5_1).f0).toList
              · rw [if_pos c7] at H
                have c7b0 : (((rd_T84 l0 x5_1).f0).toList == ((rd_T74 l1 x5_1).f0).toList) = true := beq_iff_eq.mpr c7
                have c7b1 : (((rd_T84 l0 x5_1).f0).toList != ((rd_T74 l1 x5_1).f0).toList) = false := bne_eq_false_iff_eq.mpr c7
                clear c7
                by_cases c8 : ((rd_T84 l0 x5_1).f1) = ((rd_T74 l1 x5_1).f1)
                · rw [if_pos c8] at H
                  have c8b0 : (((rd_T84 l0 x5_1).f1) == ((rd_T74 l1 x5_1).f1)) = true := beq_iff_eq.mpr c8
                  have c8b1 : (((rd_T84 l0 x5_1).f1) != ((rd_T74 l1 x5_1).f1)) = false := bne_eq_false_iff_eq.mpr c8
                  clear c8
                  have H' := Aside0.mk H
                  clear H
                  have p213 : 0 ≤ (x5_1 : Int) := of_decide_eq_true (by first | (with_reducible assumption) | assumption)
                  have q213 : x5_1 < (l0.length : Int) := of_decide_eq_true (by first | (with_reducible assumption) | assumption)
                  obtain ⟨ad213, e213, hx213_0, hx213_1⟩ := at_T84 HR0.out x5_1 p213 q213
                  cases e213
                  replace p213 := eq_true p213
                  replace q213 := eq_true q213
                  have p214 : 0 ≤ (x5_1 : Int) := of_decide_eq_true (by first | (with_reducible assumption) | assumption)
                  have q214 : x5_1 < (l1.length : Int) := of_decide_eq_true (by first | (with_reducible assumption) | assumption)
                  obtain ⟨ad214, e214, hx214_0, hx214_1⟩ := at_T74 HR1.out x5_1 p214 q214
                  cases e214
                  replace p214 := eq_true p214
                  replace q214 := eq_true q214
                  have p215 : 0 ≤ (x5_1 : Int) := of_decide_eq_true (by first | (with_reducible assumption) | assumption)
                  have q215 : x5_1 < (l0.length : Int) := of_decide_eq_true (by first | (with_reducible assumption) | assumption)
                  obtain ⟨ad215, e215, hx215_0, hx215_1⟩ := at_T84 HR0.out x5_1 p215 q215
                  obtain rfl : ad213 = ad215 := (by injection e215)
                  replace p215 := eq_true p215
                  replace q215 := eq_true q215
                  have p216 : 0 ≤ (x5_1 : Int) := of_decide_eq_true (by first | (with_reducible assumption) | assumption)
                  have q216 : x5_1 < (l1.length : Int) := of_decide_eq_true (by first | (with_reducible assumption) | assumption)
                  obtain ⟨ad216, e216, hx216_0, hx216_1⟩ := at_T74 HR1.out x5_1 p216 q216
                  obtain rfl : ad214 = ad216 := (by injection e216)
                  replace p216 := eq_true p216
                  replace q216 := eq_true q216
                  go_wp2
                  repeat (go_quiet (fail); try go_wp2)
                  go_roundg k1
                  case measure => have := HK1.out; omega
                  case rel => exact ⟨(wrap64 (x5_1 + 1)), (by first | rfl | (simp; done) | (simp [*]; done)), H', ⟨by have := HK1.out; omega⟩, by repeat (first | exact Drawn0.refl _ | apply Drawn0.step)⟩
                · rw [if_neg c8] at H
                  have c8b0 : (((rd_T84 l0 x5_1).f1) == ((rd_T74 l1 x5_1).f1)) = false := beq_eq_false_iff_ne.mpr c8
                  have c8b1 : (((rd_T84 l0 x5_1).f1) != ((rd_T74 l1 x5_1).f1)) = true := bne_iff_ne.mpr c8
                  obtain rfl := Option.some.inj H
                  have p213 : 0 ≤ (x5_1 : Int) := of_decide_eq_true (by first | (with_reducible assumption) | assumption)
                  have q213 : x5_1 < (l0.length : Int) := of_decide_eq_true (by first | (with_reducible assumption) | assumption)
                  obtain ⟨ad213, e213, hx213_0, hx213_1⟩ := at_T84 HR0.out x5_1 p213 q213
                  cases e213
                  replace p213 := eq_true p213
                  replace q213 := eq_true q213
                  have p214 : 0 ≤ (x5_1 : Int) := of_decide_eq_true (by first | (with_reducible assumption) | assumption)
                  have q214 : x5_1 < (l1.length : Int) := of_decide_eq_true (by first | (with_reducible assumption) | assumption)
                  obtain ⟨ad214, e214, hx214_0, hx214_1⟩ := at_T74 HR1.out x5_1 p214 q214
                  cases e214
                  replace p214 := eq_true p214
                  replace q214 := eq_true q214
                  have p215 : 0 ≤ (x5_1 : Int) := of_decide_eq_true (by first | (with_reducible assumption) | assumption)
                  have q215 : x5_1 < (l0.length : Int) := of_decide_eq_true (by first | (with_reducible assumption) | assumption)
                  obtain ⟨ad215, e215, hx215_0, hx215_1⟩ := at_T84 HR0.out x5_1 p215 q215
                  obtain rfl : ad213 = ad215 := (by injection e215)
                  replace p215 := eq_true p215
                  replace q215 := eq_true q215
                  have p216 : 0 ≤ (x5_1 : Int) := of_decide_eq_true (by first | (with_reducible assumption) | assumption)
                  have q216 : x5_1 < (l1.length : Int) := of_decide_eq_true (by first | (with_reducible assumption) | assumption)
                  obtain ⟨ad216, e216, hx216_0, hx216_1⟩ := at_T74 HR1.out x5_1 p216 q216
                  obtain rfl : ad214 = ad216 := (by injection e216)
                  replace p216 := eq_true p216
                  replace q216 := eq_true q216
                  go_wp2
                  repeat (go_quiet (fail); try go_wp2)
                  go_ret
                  exact ⟨by first | rfl | (simp; done) | (simp [*]; done), by repeat (first | exact Drawn0.refl _ | apply Drawn0.step)⟩
              · rw [if_neg c7] at H
                have c7b0 : (((rd_T84 l0 x5_1).f0).toList == ((rd_T74 l1 x5_1).f0).toList) = false := beq_eq_false_iff_ne.mpr c7
                have c7b1 : (((rd_T84 l0 x5_1).f0).toList != ((rd_T74 l1 x5_1).f0).toList) = true := bne_iff_ne.mpr c7
                obtain rfl := Option.some.inj H
                have p213 : 0 ≤ (x5_1 : Int) := of_decide_eq_true (by first | (with_reducible assumption) | assumption)
                have q213 : x5_1 < (l0.length : Int) := of_decide_eq_true (by first | (with_reducible assumption) | assumption)
                obtain ⟨ad213, e213, hx213_0, hx213_1⟩ := at_T84 HR0.out x5_1 p213 q213
                cases e213
                replace p213 := eq_true p213
                replace q213 := eq_true q213
                have p214 : 0 ≤ (x5_1 : Int) := of_decide_eq_true (by first | (with_reducible assumption) | assumption)
                have q214 : x5_1 < (l1.length : Int) := of_decide_eq_true (by first | (with_reducible assumption) | assumption)
                obtain ⟨ad214, e214, hx214_0, hx214_1⟩ := at_T74 HR1.out x5_1 p214 q214
                cases e214
                replace p214 := eq_true p214
                replace q214 := eq_true q214
                go_wp2
                repeat (go_quiet (fail); try go_wp2)
                go_ret
                exact ⟨by first | rfl | (simp; done) | (simp [*]; done), by repeat (first | exact Drawn0.refl _ | apply Drawn0.step)⟩
            · rw [if_neg c6] at H
              exact absurd H (by simp)
          · rw [if_neg c5] at H
            exact absurd H (by simp)
        · rw [if_neg c4] at H
          have c4b0 : decide (x5_1 < (l0.length : Int)) = false := decide_eq_false c4
          clear c4
          obtain rfl := Option.some.inj H
          go_wp2
          repeat (go_quiet (fail); try go_wp2)
          go_ret
          exact ⟨by first | rfl | (simp; done) | (simp [*]; done), by repeat (first | exact Drawn0.refl _ | apply Drawn0.step)⟩
  · rw [if_neg c3] at H
    have c3b0 : ((l0.length : Int) == (l1.length : Int)) = false := beq_eq_false_iff_ne.mpr c3
    have c3b1 : ((l0.length : Int) != (l1.length : Int)) = true := bne_iff_ne.mpr c3
    have c3b2 : (l0.length == l1.length) = false := by first | simpa using c3 | (simp at c3 ⊢; omega)
    obtain rfl := Option.some.inj H
    go_enter Try.func34, Try.ntmps34
    go_wp2
    repeat (go_quiet (fail); try go_wp2)
    go_ret
    exact ⟨by first | rfl | (simp; done) | (simp [*]; done), by repeat (first | exact Drawn0.refl _ | apply Drawn0.step)⟩

/-! ### stylusref09_Kept: function 35 -/
def stylusref09_Kept.f (l0_0 : List (List (S74))) : Option ((List (S74))) := if 0 < (l0_0.length : Int) then (some (rd_L9 l0_0 0)) else (none)
set_option maxHeartbeats 8000000 in
set_option maxRecDepth 100000 in
theorem stylusref09_Kept.calls (P0_0_ : Nat → Prop) (A0_0 : Option Addr) (c0_0 : Nat) (l0_0 : List (List (S74))) (r : List (S74)) (w : World) (hs0_0 : Kd.V (Kd.slice 74 k74) 45 w w.heap.size (fun k_ => P0_0_ k_) (.slice A0_0 l0_0.length c0_0) l0_0) (h : stylusref09_Kept.f l0_0 = some r) :
    Calls Try.prog 35 #[.agg #[.slice A0_0 l0_0.length c0_0]] w fun e w' => ∃ v0_ : Value, e = .returned (v0_) ∧ Kd.V k74 74 w' w.heap.size (fun k_ => (P0_0_ k_ ∨ w.heap.size ≤ k_)) v0_ r ∧ Below w.heap.size w w' := by
  have hu37 := Try.underlying37
  have HO0_0 := Aside0.mk (show Kd.V (Kd.slice 74 k74) 45 w w.heap.size (fun k_ => (P0_0_ k_ ∨ w.heap.size ≤ k_)) (.slice A0_0 l0_0.length c0_0) l0_0 from Kd.V_mono hs0_0 (fun k_ hk => .inl hk))
  have HB := Aside0.mk (Below.refl w.heap.size w)
  have H : (if 0 < (l0_0.length : Int) then (some (rd_L9 l0_0 0)) else (none)) = some r := h
  clear h
  by_cases c2 : 0 < (l0_0.length : Int)
  · rw [if_pos c2] at H
    have c2b0 : decide (0 < (l0_0.length : Int)) = true := decide_eq_true c2
    have c2b1 : decide (0 < l0_0.length) = true := decide_eq_true (by omega)
    clear c2
    obtain rfl := Option.some.inj H
    go_enter Try.func35, Try.ntmps35
    go_wp2_with (first | ((with_reducible refine gate_dst (N := 1) rfl ?_); refine box_event ?hg (N := 1) ?hd (cs := #[.slice A0_0 l0_0.length c0_0]) (t := 37) ?hr ?_; (case hd => rfl); (case hg => rfl); (case hr => first | (go_simp; done) | (go_simp; rfl)); intro gb217 hg w3 hbox hb; have n0_ := Aside0.mk (Kd.V_below (Kd.V_elderB (by (with_reducible repeat (first | apply Kd.V_alloc | apply Kd.V_drewN | apply Kd.V_drew)); exact HO0_0.out) gb217 (Nat.le_of_eq hg.symm)) hb); have n1_ := Aside0.mk (below_step (by repeat (first | (with_reducible first | exact HB.out | apply below_alloc | apply pw_below_drewN | apply below_drew1) | exact HB.out)) hb); have n2_ := Aside0.mk (hbox); have n3_ := Aside0.mk ((by rw [hg]; exact (below_size (by repeat (first | (with_reducible first | exact HB.out | apply below_alloc | apply pw_below_drewN | apply below_drew1) | exact HB.out))) : w.heap.size ≤ gb217)); have n4_ := Aside0.mk ((by rw [hg]; exact (below_size (by repeat (first | (with_reducible first | exact HB.out | apply below_alloc | apply pw_below_drewN | apply below_drew1) | exact HB.out))) : w.heap.size ≤ gb217)); clear HO0_0; clear HB; have HO0_0 := n0_; have HB := n1_; have BK217 := n2_; have GW217 := n3_; have GE217 := n4_; clear n0_ n1_ n2_ n3_ n4_; clear hb hbox hg; have hcz4_0 : w3.cell? ⟨gb217, 0, none⟩ = some (.slice A0_0 l0_0.length c0_0) := (blk_cell BK217.out 0).trans rfl; have hfz4_0 := blk_frozen BK217.out 0; have p218 : 0 ≤ (0 : Int) := (by omega); have q218 : 0 < (l0_0.length : Int) := of_decide_eq_true (by first | (with_reducible assumption) | assumption); obtain ⟨ad218, A218_0, c218_0, e218, hx218_0, hl218_0, hi218_0⟩ := at_L9 (Kd.V_reads' HO0_0.out).2.2 0 p218 q218; cases e218; obtain ⟨ce218, hce218, hMe218, hcc218⟩ := Kd.V_get HO0_0.out [] 0 p218 (by first | exact q218 | exact of_decide_eq_true (by first | (with_reducible assumption) | assumption) | (have e_ := (Kd.V_reads' HO0_0.out).1; omega)); obtain ⟨ua218_0, uc218_0, rfl, ul218_0, ge218_0⟩ := Kd.FK_slice_open hMe218; have hv218_0 := hcc218 0 _ rfl; rw [Nat.add_zero, show ((Kd.slice 74 k74)).sz = 1 from rfl, Nat.mul_one] at hv218_0; replace hv218_0 := Option.some.inj (hv218_0.symm.trans hx218_0); injection hv218_0 with hva_ hvn_ hvc_; rw [hva_] at ge218_0; rw [hvc_] at ul218_0; have HL218_0 := Aside0.mk (show Kd.V k74 74 _ w.heap.size _ _ (rd_L9 l0_0 0) from Kd.V_mk ul218_0 ge218_0); clear hva_ hvn_ hvc_ ge218_0 ul218_0; clear hcc218 hce218; have qi218 : (0 < l0_0.length) = True := eq_true (by omega); (try rw [show ((0 : Int)).toNat = 0 from rfl] at hx218_0); (try rw [Addr.add_zero'] at hx218_0); have HR218_0 := Aside0.mk hi218_0; have HC218_0 := Aside0.mk hl218_0; clear hi218_0 hl218_0; replace p218 := eq_true p218; replace q218 := eq_true q218))
    go_ret
    exact ⟨_, by first | rfl | (simp [errW_none, errW_some] <;> rfl) | (simp [*, errW_none, errW_some] <;> rfl), by (with_reducible repeat (first | apply Kd.V_alloc | apply Kd.V_drewN | apply Kd.V_drew)); exact Kd.V_mono HL218_0.out (fun _ hk => hk.1), by repeat (first | (with_reducible first | exact HB.out | apply below_alloc | apply pw_below_drewN | apply below_drew1 | refine below_set ?_ GE217.out) | exact HB.out)⟩
  · rw [if_neg c2] at H
    exact absurd H (by simp)

/-! ### styluslaw09_ints: function 36 -/
def styluslaw09_ints.l0 : Nat → List Int → List Int → Int → Option (Bool)
  | 0, _, _, _ => none
  | k + 1, x0, x1, x5 => if x5 < (x0.length : Int) then (if 0 ≤ x5 then (if x5 < (x1.length : Int) then (if (rd x0 x5) = (rd x1 x5) then (styluslaw09_ints.l0 k x0 x1 (wrap64 (x5 + 1))) else (some false)) else (none)) else (none)) else (some true)
def styluslaw09_ints.f (k : Nat) (l0 : List Int) (l1 : List Int) : Option (Bool) := if (l0.length : Int) = (l1.length : Int) then (styluslaw09_ints.l0 k l0 l1 0) else (some false)
theorem styluslaw09_ints.mono_l : ∀ k, (∀ y0 y1 y2, LeO (styluslaw09_ints.l0 k y0 y1 y2) (styluslaw09_ints.l0 (k + 1) y0 y1 y2))
  | 0 => fun _ _ _ r h => by simp [styluslaw09_ints.l0] at h
  | k + 1 => by
    have ih0 := styluslaw09_ints.mono_l k
    · intro y0 y1 y2
      unfold styluslaw09_ints.l0
      repeat' first
      | (with_reducible exact ih0 _ _ _)
      | (with_reducible exact LeO.refl _)
      | (with_reducible exact LeO.none _)
      | (with_reducible refine LeO.ite ?_ ?_)
      | (with_reducible refine LeO.bind ?_ (fun _ => ?_))
      | exact ih0 _ _ _
      | exact LeO.none _
      | refine LeO.ite ?_ ?_
      | refine LeO.bind ?_ (fun _ => ?_)
theorem styluslaw09_ints.mono : ∀ a0 a1 k, LeO (styluslaw09_ints.f k a0 a1) (styluslaw09_ints.f (k + 1) a0 a1) := by
  intro a0 a1 k
  have ih0 := styluslaw09_ints.mono_l k
  unfold styluslaw09_ints.f
  repeat' first
      | (with_reducible exact ih0 _ _ _)
      | (with_reducible exact LeO.refl _)
      | (with_reducible exact LeO.none _)
      | (with_reducible refine LeO.ite ?_ ?_)
      | (with_reducible refine LeO.bind ?_ (fun _ => ?_))
      | exact ih0 _ _ _
      | exact LeO.none _
      | refine LeO.ite ?_ ?_
      | refine LeO.bind ?_ (fun _ => ?_)
set_option maxHeartbeats 8000000 in
set_option maxRecDepth 100000 in
theorem styluslaw09_ints.calls (k : Nat) (A0 : Option Addr) (c0 : Nat) (l0 : List Int) (A1 : Option Addr) (c1 : Nat) (l1 : List Int) (r : Bool) (w : World) (hr0 : Kd.C (Kd.int .i64) w A0 l0.length l0) (hc0 : l0.length ≤ c0) (hr1 : Kd.C (Kd.int .i64) w A1 l1.length l1) (hc1 : l1.length ≤ c1) (h : styluslaw09_ints.f k l0 l1 = some r) :
    Calls Try.prog 36 #[.slice A0 l0.length c0, .slice A1 l1.length c1] w fun e w' => e = .returned (.bool r) ∧ Drawn0 w w' := by
  have HR0 := Aside0.mk hr0
  have HC0 := Aside0.mk hc0
  clear hr0 hc0
  have HR1 := Aside0.mk hr1
  have HC1 := Aside0.mk hc1
  clear hr1 hc1
  have H : (if (l0.length : Int) = (l1.length : Int) then (styluslaw09_ints.l0 k l0 l1 0) else (some false)) = some r := h
  clear h
  by_cases c3 : (l0.length : Int) = (l1.length : Int)
  · rw [if_pos c3] at H
    have c3b0 : ((l0.length : Int) == (l1.length : Int)) = true := beq_iff_eq.mpr c3
    have c3b1 : ((l0.length : Int) != (l1.length : Int)) = false := bne_eq_false_iff_eq.mpr c3
    have c3b2 : (l0.length == l1.length) = true := by first | simpa using c3 | (simp at c3 ⊢; omega)
    clear c3
    have H' := Aside0.mk H
    clear H
    go_enter Try.func36, Try.ntmps36
    go_wp2
    repeat (go_quiet (fail); try go_wp2)
    go_loopg [5] k (fun kq v5 w' => ∃ (x5_1 : Int), v5 = .int .i64 x5_1 ∧ Aside0 (styluslaw09_ints.l0 kq l0 l1 x5_1 = some r) ∧ Aside0 (kq ≤ k) ∧ Drawn0 w w')
    case atStart => exact ⟨(0), (by first | rfl | (simp; done) | (simp [*]; done)), H', ⟨Nat.le_refl _⟩, by repeat (first | exact Drawn0.refl _ | apply Drawn0.step)⟩
    case round =>
      clear H'
      try clear c1
      try clear p2
      try clear c3
      try clear c3b0
      try clear c3b1
      try clear c3b2
      obtain ⟨x5_1, rfl, HA, HK1, ⟨m1, rfl⟩⟩ := hrel
      cases gk with
      | zero => exact absurd HA.out (by simp [styluslaw09_ints.l0])
      | succ k1 =>
        have H := HA.out
        clear HA
        simp only [styluslaw09_ints.l0] at H
        by_cases c4 : x5_1 < (l0.length : Int)
        · rw [if_pos c4] at H
          have c4b0 : decide (x5_1 < (l0.length : Int)) = true := decide_eq_true c4
          clear c4
          by_cases c5 : 0 ≤ x5_1
          · rw [if_pos c5] at H
            have c5b0 : decide (0 ≤ x5_1) = true := decide_eq_true c5
            clear c5
            by_cases c6 : x5_1 < (l1.length : Int)
            · rw [if_pos c6] at H
              have c6b0 : decide (x5_1 < (l1.length : Int)) = true := decide_eq_true c6
              clear c6
              by_cases c7 : (rd l0 x5_1) = (rd l1 x5_1)
              · rw [if_pos c7] at H
                have c7b0 : ((rd l0 x5_1) == (rd l1 x5_1)) = true := beq_iff_eq.mpr c7
                have c7b1 : ((rd l0 x5_1) != (rd l1 x5_1)) = false := bne_eq_false_iff_eq.mpr c7
                clear c7
                have H' := Aside0.mk H
                clear H
                have p219 : 0 ≤ (x5_1 : Int) := of_decide_eq_true (by first | (with_reducible assumption) | assumption)
                have q219 : x5_1 < (l0.length : Int) := of_decide_eq_true (by first | (with_reducible assumption) | assumption)
                obtain ⟨ad219, e219, hx219_0⟩ := Kd.at_int HR0.out x5_1 p219 q219
                cases e219
                replace p219 := eq_true p219
                replace q219 := eq_true q219
                have p220 : 0 ≤ (x5_1 : Int) := of_decide_eq_true (by first | (with_reducible assumption) | assumption)
                have q220 : x5_1 < (l1.length : Int) := of_decide_eq_true (by first | (with_reducible assumption) | assumption)
                obtain ⟨ad220, e220, hx220_0⟩ := Kd.at_int HR1.out x5_1 p220 q220
                cases e220
                replace p220 := eq_true p220
                replace q220 := eq_true q220
                go_wp2
                repeat (go_quiet (fail); try go_wp2)
                go_roundg k1
                case measure => have := HK1.out; omega
                case rel => exact ⟨(wrap64 (x5_1 + 1)), (by first | rfl | (simp; done) | (simp [*]; done)), H', ⟨by have := HK1.out; omega⟩, by repeat (first | exact Drawn0.refl _ | apply Drawn0.step)⟩
              · rw [if_neg c7] at H
                have c7b0 : ((rd l0 x5_1) == (rd l1 x5_1)) = false := beq_eq_false_iff_ne.mpr c7
                have c7b1 : ((rd l0 x5_1) != (rd l1 x5_1)) = true := bne_iff_ne.mpr c7
                obtain rfl := Option.some.inj H
                have p219 : 0 ≤ (x5_1 : Int) := of_decide_eq_true (by first | (with_reducible assumption) | assumption)
                have q219 : x5_1 < (l0.length : Int) := of_decide_eq_true (by first | (with_reducible assumption) | assumption)
                obtain ⟨ad219, e219, hx219_0⟩ := Kd.at_int HR0.out x5_1 p219 q219
                cases e219
                replace p219 := eq_true p219
                replace q219 := eq_true q219
                have p220 : 0 ≤ (x5_1 : Int) := of_decide_eq_true (by first | (with_reducible assumption) | assumption)
                have q220 : x5_1 < (l1.length : Int) := of_decide_eq_true (by first | (with_reducible assumption) | assumption)
                obtain ⟨ad220, e220, hx220_0⟩ := Kd.at_int HR1.out x5_1 p220 q220
                cases e220
                replace p220 := eq_true p220
                replace q220 := eq_true q220
                go_wp2
                repeat (go_quiet (fail); try go_wp2)
                go_ret
                exact ⟨by first | rfl | (simp; done) | (simp [*]; done), by repeat (first | exact Drawn0.refl _ | apply Drawn0.step)⟩
            · rw [if_neg c6] at H
              exact absurd H (by simp)
          · rw [if_neg c5] at H
            exact absurd H (by simp)
        · rw [if_neg c4] at H
          have c4b0 : decide (x5_1 < (l0.length : Int)) = false := decide_eq_false c4
          clear c4
          obtain rfl := Option.some.inj H
          go_wp2
          repeat (go_quiet (fail); try go_wp2)
          go_ret
          exact ⟨by first | rfl | (simp; done) | (simp [*]; done), by repeat (first | exact Drawn0.refl _ | apply Drawn0.step)⟩
  · rw [if_neg c3] at H
    have c3b0 : ((l0.length : Int) == (l1.length : Int)) = false := beq_eq_false_iff_ne.mpr c3
    have c3b1 : ((l0.length : Int) != (l1.length : Int)) = true := bne_iff_ne.mpr c3
    have c3b2 : (l0.length == l1.length) = false := by first | simpa using c3 | (simp at c3 ⊢; omega)
    obtain rfl := Option.some.inj H
    go_enter Try.func36, Try.ntmps36
    go_wp2
    repeat (go_quiet (fail); try go_wp2)
    go_ret
    exact ⟨by first | rfl | (simp; done) | (simp [*]; done), by repeat (first | exact Drawn0.refl _ | apply Drawn0.step)⟩

end Go.Proofs.Ytdlnbchgimmmoaa.P
