import Derived.Test.YtnndanfghlnpfaaPx0
import Derived.Lib.Builder
import Derived.Lib.OthersKept
import Derived.Lib.UnsafeStr
import Derived.Shelf.RegionOpenPlain
import Derived.Test.YtnndanfghlnpfaaPx8
namespace Go.Proofs.Ytnndanfghlnpfaa.P
open Go.RowKit Go.Proofs.YtnndanfghlnpfaaW.PrintWords Go.Proofs.YtnndanfghlnpfaaW.PrintLast Go.Proofs.YtnndanfghlnpfaaW.PrintMore
attribute [local go_sem] max2_int min2_int max_two min_two max_three min_three max_four min_four   -- for this text's walks alone
set_option linter.unusedVariables false
set_option linter.unusedSimpArgs false
/-! ### pack_Lay: function 8 -/
theorem pwb_size : ∃ j, Try.prog.info? 43 = some j ∧ j.size = 2 := by
 have h : (Try.prog.info? 43).map (·.size) = some 2 := by kernel_rfl
 obtain ⟨j, hj, hs⟩ := Option.map_eq_some_iff.1 h
 exact ⟨j, hj, hs⟩
theorem pwb_byte : ∃ j, Try.prog.info? 5 = some j ∧ j.zero = some (.int .u8 0) ∧ j.size = 1 ∧ j.bytes = 1 := by
 have h : (Try.prog.info? 5).map (fun i => (i.zero, i.size, i.bytes)) = some (some (.int .u8 0), 1, 1) := by kernel_rfl
 obtain ⟨j, hj, hs⟩ := Option.map_eq_some_iff.1 h
 simp only [Prod.mk.injEq] at hs
 exact ⟨j, hj, hs.1, hs.2.1, hs.2.2⟩
set_option maxHeartbeats 2000000 in
set_option maxRecDepth 100000 in
theorem pwb_check (B b : Nat) (bs : List Value) (w : World) (h : Lib.IsBuilder 45 5 B b bs w) :
  Calls Try.prog 74 #[.pointer (some ⟨b, 0, none⟩)] w fun e w' => e = .returned (.tuple #[]) ∧ Lib.BuilderAt 45 5 B b (.pointer (some ⟨b, 0, none⟩)) bs w' ∧ Below B w w' ∧ Lib.OthersKept 5 (some b) w w' := by
 obtain ⟨j, hj, hs⟩ := pwb_size
 rcases h with h | h
 ·have c0 := h.cell0
  have z0 := h.frozen0
  have hto := Lib.run_to_unsafe (P := Try.prog) w ⟨b, 0, none⟩ Try.underlying41 Try.underlying117 hj (by rw [hs]; decide) h.shape (Nat.zero_lt_succ 1)
  have hfrom := Lib.run_from_unsafe (P := Try.prog) w ⟨b, 0, none⟩ Try.underlying117 Try.underlying41 hj h.shape (by kernel_rfl)
  have HB := aS_ h
  clear h
  go_enter Try.func74, Try.ntmps74
  go_wp2
  rw [run_callFunc_extern Try.func93 (by kernel_rfl) (by kernel_rfl) (by kernel_rfl) (e := Extern.AbiNoEscape.same) (by kernel_rfl), Lib.run_noEscape]
  simp only [Result.andThen]
  rw [Oper.upon_value]
  go_wp2
  go_end0
  exact ⟨rfl, HB.out.used _, (Below.refl B w).setCell (p := ⟨b, 0, none⟩) HB.out.1 _, (Lib.OthersKept.refl _ _ w).setCell ⟨b, 0, none⟩ rfl _⟩
 ·have c0 := h.cell0
  have hne := Lib.run_neq_ptr_same (P := Try.prog) w ⟨b, 0, none⟩ Try.underlying41 hj
  have HB := aS_ h
  clear h
  go_enter Try.func74, Try.ntmps74
  go_wp2
  go_end0
  exact ⟨rfl, HB.out, Below.refl B _, Lib.OthersKept.refl _ _ _⟩
theorem pwb_cells {B b : Nat} {bs : List Value} {w : World} (h : Lib.BuilderAt 45 5 B b (.pointer (some ⟨b, 0, none⟩)) bs w) :
  ∃ v, w.heap[b]? = some (.cells #[.pointer (some ⟨b, 0, none⟩), v] 45 (0, 0)) ∧ w.ownsRow B 5 1 v bs.length bs ∧ v.ownBlock ≠ some b ∧ B ≤ b := by
 obtain ⟨hB, v, hb, ho, hn⟩ := h
 exact ⟨v, hb, ho, hn, hB⟩
theorem pwb_kind {w : World} {B n : Nat} {v : Value} {xs : List Value} (h : w.ownsRow B 5 1 v n xs) : ∀ g, v.ownBlock = some g → ∃ c fz, w.heap[g]? = some (.cells c 5 fz) := by
 intro g hg
 rcases h.2 with ⟨rfl, _⟩ | ⟨g', cap, cur, rfl, _, hgg, _⟩
 ·simp [Value.ownBlock] at hg
 ·obtain rfl : g' = g := by simpa [Value.ownBlock] using hg
  exact ⟨_, _, hgg⟩
theorem pwb_slice {w : World} {B n : Nat} {v : Value} {xs : List Value} (h : w.ownsRow B 5 1 v n xs) : ∃ A m c, v = .slice A m c := by
 rcases h.2 with ⟨hv, _⟩ | ⟨g, cap, cur, hv, _⟩
 ·exact ⟨_, _, _, hv⟩
 ·exact ⟨_, _, _, hv⟩
set_option maxHeartbeats 4000000 in
set_option maxRecDepth 100000 in
theorem pwb_text (B b : Nat) (bs : List Value) (s : ByteArray) (w : World) (h : Lib.IsBuilder 45 5 B b bs w) (hl : bs.length + s.size ≤ 140737488355328) (hw : B ≤ w.heap.size) :
  Calls Try.prog 44 #[.pointer (some ⟨b, 0, none⟩), .string s] w fun e w' => e = .returned (.tuple #[.int .i64 s.size, .nilIface]) ∧ Lib.BuilderAt 45 5 B b (.pointer (some ⟨b, 0, none⟩)) (bs ++ Lib.strCells s) w' ∧ Below B w w' ∧ Lib.OthersKept 5 (some b) w w' := by
 obtain ⟨i, hi, hi0, hi1, hi2⟩ := pwb_byte
 go_enter Try.func44, Try.ntmps44
 go_wp2_with (go_at_call 74; refine (pwb_check B b bs _ h).mono ?_)
 rintro e w1 ⟨rfl, h1, hb1, hk1⟩
 obtain ⟨v, hg, ho, hn, hB⟩ := pwb_cells h1
 have q0 := (blk_cell hg 0).trans rfl
 have q1 := (blk_cell hg 1).trans rfl
 have hsz := hb1.size
 go_wp2_with (at_builtin; refine Lib.wpList_append_own_string _ rfl _ _ 39 9 rfl B 5 i Try.underlying39 Try.underlying9 hi hi0 hi1 hi2 _ _ _ rfl ho s rfl ?cm ?cl ?cb ?_)
 case cm => unfold maxLen; omega
 case cl => omega
 case cb => omega
 intro v2 w2 ho2 hgr _
 have hg2 : w2.heap[b]? = some (.cells #[.pointer (some ⟨b, 0, none⟩), v] 45 (0, 0)) := (hgr.block b (blk_lt hg) (fun e => hn e.symm)).trans hg
 have p1 := (blk_cell hg2 1).trans rfl
 have f1 := blk_frozen hg2 1
 obtain ⟨A2, n2, c2, rfl⟩ := pwb_slice ho2
 go_wp2
 go_ret2
 refine ⟨rfl, Lib.BuilderAt.put hB hg2 (bs' := bs ++ Lib.strCells s) (by simpa [Lib.strCells_length] using ho2) (by decide), ?_⟩
 exact ⟨(hb1.grown hgr (by omega) (fun k hk => (ho.lt k hk).1)).setCell (p := ⟨b, 1, none⟩) hB _, (hk1.grown hgr (pwb_kind ho)).setCell ⟨b, 1, none⟩ rfl _⟩
set_option maxHeartbeats 4000000 in
set_option maxRecDepth 100000 in
theorem pwb_one (B b : Nat) (bs : List Value) (c : Int) (w : World) (h : Lib.IsBuilder 45 5 B b bs w) (hl : bs.length + 1 ≤ 140737488355328) (hw : B ≤ w.heap.size) :
  Calls Try.prog 47 #[.pointer (some ⟨b, 0, none⟩), .int .u8 c] w fun e w' => e = .returned .nilIface ∧ Lib.BuilderAt 45 5 B b (.pointer (some ⟨b, 0, none⟩)) (bs ++ [.int .u8 c]) w' ∧ Below B w w' ∧ Lib.OthersKept 5 (some b) w w' := by
 obtain ⟨i, hi, hi0, hi1, hi2⟩ := pwb_byte
 go_enter Try.func47, Try.ntmps47
 go_wp2_with (go_at_call 74; refine (pwb_check B b bs _ h).mono ?_)
 rintro e w1 ⟨rfl, h1, hb1, hk1⟩
 obtain ⟨v, hg, ho, hn, hB⟩ := pwb_cells h1
 have q0 := (blk_cell hg 0).trans rfl
 have q1 := (blk_cell hg 1).trans rfl
 have hsz := hb1.size
 go_wp2_with (at_builtin; refine wpList_append_own _ rfl _ _ 39 rfl B 5 i (.int .u8 0) 1 1 Try.underlying39 hi hi0 hi1 hi2 rfl (by decide) _ _ _ rfl (ho.alloc _) ⟨w1.heap.size, 0, none⟩ 1 1 [.int .u8 c] rfl rfl ?ca ?co ?cm ?cl ?cb ?_)
 case ca =>
  intro j u hj
  cases j with
  | zero =>
   obtain rfl := Option.some.inj hj
   exact (blk_cell (heap_alloc_new w1 (.cells #[.int .u8 c] 5)) 0).trans rfl
  | succ j => cases hj
 case co =>
  intro u hu
  rcases List.mem_singleton.1 hu with rfl
  rfl
 case cm => unfold maxLen; omega
 case cl => omega
 case cb => simp; omega
 intro v2 w2 ho2 hgr _
 have hg2 : w2.heap[b]? = some (.cells #[.pointer (some ⟨b, 0, none⟩), v] 45 (0, 0)) := (hgr.block b (by have := blk_lt hg; simp; omega) (fun e => hn e.symm)).trans (bA hg _)
 have p1 := (blk_cell hg2 1).trans rfl
 have f1 := blk_frozen hg2 1
 obtain ⟨A2, n2, c2, rfl⟩ := pwb_slice ho2
 go_wp2
 go_ret
 refine ⟨rfl, Lib.BuilderAt.put hB hg2 (bs' := bs ++ [.int .u8 c]) (by simpa using ho2) (by decide), ?_⟩
 exact ⟨((hb1.alloc (by omega) _).grown hgr (by simp; omega) (fun k hk => (ho.lt k hk).1)).setCell (p := ⟨b, 1, none⟩) hB _, ((hk1.alloc _).grown hgr (pwb_kind (ho.alloc _))).setCell ⟨b, 1, none⟩ rfl _⟩
def pw_fr (B b : Nat) (w w' : World) : Prop := Below B w w' ∧ Lib.OthersKept 5 (some b) w w'
theorem pw_fr.refl {B b : Nat} {w : World} : pw_fr B b w w := ⟨Below.refl _ _, Lib.OthersKept.refl _ _ _⟩
theorem pw_fr.full {B b : Nat} {w w' : World} (hw : B ≤ w.heap.size) (hb : Below w.heap.size w w') : pw_fr B b w w' := ⟨hb.mono hw, fun k o h _ _ => (hb.block k (blk_lt h)).trans h⟩
theorem pw_fr.trans {B b : Nat} {w w1 w2 : World} (h : pw_fr B b w w1) (k : pw_fr B b w1 w2) : pw_fr B b w w2 := ⟨h.1.trans k.1, h.2.trans k.2⟩
theorem pw_fr.blk {B b g t : Nat} {cs : Array Value} {w w' : World} (h : pw_fr B b w w') (hg : w.heap[g]? = some (.cells cs t (0, 0))) (ht : t ≠ 5) (hne : g ≠ b) : w'.heap[g]? = some (.cells cs t (0, 0)) :=
 h.2 g _ hg (fun e => hne (Option.some.inj e)) (fun c fz e => by injection e with _ e2 _; exact ht e2)
theorem pw_keep {B b : Nat} {bs : List Value} {w w2 : World} (h : Lib.IsBuilder 45 5 B b bs w) (hb : Below w.heap.size w w2) : Lib.IsBuilder 45 5 B b bs w2 :=
 h.imp (fun ⟨h1, v, h2, h3, h4⟩ => ⟨h1, v, (hb.block _ (blk_lt h2)).trans h2, pw_own_below h3 hb, h4⟩) (fun ⟨h1, v, h2, h3, h4⟩ => ⟨h1, v, (hb.block _ (blk_lt h2)).trans h2, pw_own_below h3 hb, h4⟩)
theorem pw_put (B b : Nat) (o : List UInt8) (s : ByteArray) (w : World) (h : Lib.IsBuilder 45 5 B b (Lib.byteCells o) w) (hl : o.length + s.size ≤ 140737488355328) (hw : B ≤ w.heap.size) :
  Calls Try.prog 44 #[.pointer (some ⟨b, 0, none⟩), .string s] w fun e w' => e = .returned (.tuple #[.int .i64 s.size, .nilIface]) ∧ Lib.IsBuilder 45 5 B b (Lib.byteCells (o ++ s.data.toList)) w' ∧ pw_fr B b w w' := by
 refine (pwb_text B b (Lib.byteCells o) s w h (by rw [Lib.byteCells_length]; exact hl) hw).mono ?_
 rintro e w' ⟨rfl, hi, hb⟩
 refine ⟨rfl, Or.inr ?_, hb⟩
 rw [Lib.byteCells_append]
 exact hi
set_option maxHeartbeats 4000000 in
set_option maxRecDepth 100000 in
theorem pw_text (B b : Nat) (o : List UInt8) (s t : ByteArray) (w : World) (h : Lib.IsBuilder 45 5 B b (Lib.byteCells o) w) (hw : B ≤ w.heap.size) (ht : num_Put32.f (s.size : Int) = some t) (hl : o.length + t.size + s.size ≤ 1099511627776) :
  Calls Try.prog 14 #[.pointer (some ⟨b, 0, none⟩), .string s] w fun e w' => e = .returned (.tuple #[]) ∧ Lib.IsBuilder 45 5 B b (Lib.byteCells (o ++ t.data.toList ++ s.data.toList)) w' ∧ pw_fr B b w w' := by
 have HB := aS_ h
 have HW := aS_ hw
 have HT := aS_ ht
 have HL := aS_ hl
 clear h hw ht hl
 go_enter Try.func14, Try.ntmps14
 go_upto_region 0 with fail
 refine start_ (n := 7) (S := fun w' => True) (ds := []) #[false, false, false, false, false, false, false] (by kernel_rfl) rfl rfl trivial (fun hHeld => ?_)
 refine pure_ (i := 0) (N := some 4) (v := ?_) (a' := ?_) #[true, false, false, false, false, false, false] rfl rfl (by kernel_rfl) (fun _ _ _ h => h) (Or.inl ⟨by rfl, ?_⟩) ?_ ?_
 rotate_left
 ·intro w'
  go_simp
  with_reducible rfl
 rotate_left
 ·simp only [Act.put, List.setIfInBounds_toArray, List.set_cons_zero, List.set_cons_succ, i64_w, i32_w]
  rfl
 refine pure_ (i := 1) (N := some 5) (v := ?_) (a' := ?_) #[true, true, false, false, false, false, false] rfl rfl (by kernel_rfl) (fun _ _ _ h => h) (Or.inl ⟨by rfl, ?_⟩) ?_ ?_
 rotate_left
 ·intro w'
  go_simp
  with_reducible rfl
 rotate_left
 ·simp only [Act.put, List.setIfInBounds_toArray, List.set_cons_zero, List.set_cons_succ, i64_w, i32_w]
  rfl
 refine pure_ (i := 2) (N := some 6) (v := ?_) (a' := ?_) #[true, true, true, false, false, false, false] rfl rfl (by kernel_rfl) (fun _ _ _ h => h) (Or.inl ⟨by rfl, ?_⟩) ?_ ?_
 rotate_left
 ·intro w'
  go_simp
  with_reducible rfl
 rotate_left
 ·simp only [Act.put, List.setIfInBounds_toArray, List.set_cons_zero, List.set_cons_succ, i64_w, i32_w]
  rfl
 refine pure_ (i := 3) (N := some 7) (v := ?_) (a' := ?_) #[true, true, true, true, false, false, false] rfl rfl (by kernel_rfl) (fun _ _ _ h => h) (Or.inl ⟨by rfl, ?_⟩) ?_ ?_
 rotate_left
 ·intro w'
  go_simp
  with_reducible rfl
 rotate_left
 ·simp only [Act.put, List.setIfInBounds_toArray, List.set_cons_zero, List.set_cons_succ, i64_w, i32_w]
  rfl
 refine pure_ (i := 4) (N := some 8) (v := ?_) (a' := ?_) #[true, true, true, true, true, false, false] rfl rfl (by kernel_rfl) (fun _ _ _ h => h) (Or.inl ⟨by rfl, ?_⟩) ?_ ?_
 rotate_left
 ·intro w'
  go_simp
  with_reducible rfl
 rotate_left
 ·simp only [Act.put, List.setIfInBounds_toArray, List.set_cons_zero, List.set_cons_succ, i64_w, i32_w]
  rfl
 refine one_ (i := 5) (N := some 9) #[true, true, true, true, true, true, false] rfl rfl (by kernel_rfl) (by decide) (fun K hK => ?_)
 refine goes_ Try.func45 (by kernel_rfl) rfl #[.int .i64 (s.size : Int)] (by rfl) rfl rfl (by simp only [List.map_toArray, List.map_cons, List.map_nil]; rfl) ?_
 with_reducible refine (num_Put32.calls _ _ _ HT.out).mono ?_
 rintro e w2 ⟨rfl, hb⟩
 refine ⟨_, rfl, ?_⟩
 have KB := aS_ (below_step (w1_ (Below.refl w.heap.size w)) hb)
 clear hb
 refine hK.out _ _ trivial (fun hHeld => ?_)
 clear hK K
 refine norm_ (a' := ?_) ?_ ?_
 rotate_left
 ·show Act.put _ (some 9) _ = _
  simp only [Act.put, List.setIfInBounds_toArray, List.set_cons_zero, List.set_cons_succ, i64_w, i32_w]
  rfl
 refine one_ (i := 6) (N := some 10) #[true, true, true, true, true, true, true] rfl rfl (by kernel_rfl) (by decide) (fun K hK => ?_)
 refine goes_ Try.func44 (by kernel_rfl) rfl #[.pointer (some ⟨b, 0, none⟩), .string t] (by rfl) rfl rfl (by simp only [List.map_toArray, List.map_cons, List.map_nil]; rfl) ?_
 refine (pw_put B b o t _ (pw_keep HB.out KB.out) (by have := HL.out; omega) (Nat.le_trans HW.out KB.out.size)).mono ?_
 rintro e w3 ⟨rfl, hi, hb⟩
 refine ⟨_, rfl, ?_⟩
 have HI := aS_ hi
 have KB3 := aS_ ((pw_fr.full HW.out KB.out).trans hb)
 clear hi hb
 refine hK.out _ _ trivial (fun hHeld => ?_)
 clear hK K
 refine norm_ (a' := ?_) ?_ ?_
 rotate_left
 ·show Act.put _ (some 10) _ = _
  simp only [Act.put, List.setIfInBounds_toArray, List.set_cons_zero, List.set_cons_succ, i64_w, i32_w]
  rfl
 refine done_ (by kernel_rfl) ?_
 go_wp2_with (go_at_call 44; refine (pw_put B b (o ++ t.data.toList) s _ HI.out (by have := HL.out; simp only [List.length_append, Array.length_toList, ByteArray.size_data]; omega) (Nat.le_trans HW.out KB3.out.1.size)).mono ?_; rintro e w4 ⟨rfl, hi, hb⟩; have HI4 := aS_ hi; have KB4 := aS_ (KB3.out.trans hb); clear hi hb)
 go_end0
 exact ⟨rfl, HI4.out, KB4.out⟩
set_option maxHeartbeats 4000000 in
set_option maxRecDepth 100000 in
theorem pw_count (B b : Nat) (o : List UInt8) (n : Int) (t : ByteArray) (w : World) (h : Lib.IsBuilder 45 5 B b (Lib.byteCells o) w) (hw : B ≤ w.heap.size) (ht : num_Put16.f n = some t) (hl : o.length + t.size ≤ 1099511627776) :
  Calls Try.prog 15 #[.pointer (some ⟨b, 0, none⟩), .int .i64 n] w fun e w' => e = .returned (.tuple #[]) ∧ Lib.IsBuilder 45 5 B b (Lib.byteCells (o ++ t.data.toList)) w' ∧ pw_fr B b w w' := by
 have HB := aS_ h
 have HW := aS_ hw
 have HT := aS_ ht
 have HL := aS_ hl
 clear h hw ht hl
 go_enter Try.func15, Try.ntmps15
 go_upto_region 0 with fail
 refine start_ (n := 6) (S := fun w' => True) (ds := []) #[false, false, false, false, false, false] (by kernel_rfl) rfl rfl trivial (fun hHeld => ?_)
 refine pure_ (i := 0) (N := some 4) (v := ?_) (a' := ?_) #[true, false, false, false, false, false] rfl rfl (by kernel_rfl) (fun _ _ _ h => h) (Or.inl ⟨by rfl, ?_⟩) ?_ ?_
 rotate_left
 ·intro w'
  go_simp
  with_reducible rfl
 rotate_left
 ·simp only [Act.put, List.setIfInBounds_toArray, List.set_cons_zero, List.set_cons_succ, i64_w, i32_w]
  rfl
 refine pure_ (i := 1) (N := some 5) (v := ?_) (a' := ?_) #[true, true, false, false, false, false] rfl rfl (by kernel_rfl) (fun _ _ _ h => h) (Or.inl ⟨by rfl, ?_⟩) ?_ ?_
 rotate_left
 ·intro w'
  go_simp
  with_reducible rfl
 rotate_left
 ·simp only [Act.put, List.setIfInBounds_toArray, List.set_cons_zero, List.set_cons_succ, i64_w, i32_w]
  rfl
 refine pure_ (i := 2) (N := some 6) (v := ?_) (a' := ?_) #[true, true, true, false, false, false] rfl rfl (by kernel_rfl) (fun _ _ _ h => h) (Or.inl ⟨by rfl, ?_⟩) ?_ ?_
 rotate_left
 ·intro w'
  go_simp
  with_reducible rfl
 rotate_left
 ·simp only [Act.put, List.setIfInBounds_toArray, List.set_cons_zero, List.set_cons_succ, i64_w, i32_w]
  rfl
 refine pure_ (i := 3) (N := some 7) (v := ?_) (a' := ?_) #[true, true, true, true, false, false] rfl rfl (by kernel_rfl) (fun _ _ _ h => h) (Or.inl ⟨by rfl, ?_⟩) ?_ ?_
 rotate_left
 ·intro w'
  go_simp
  with_reducible rfl
 rotate_left
 ·simp only [Act.put, List.setIfInBounds_toArray, List.set_cons_zero, List.set_cons_succ, i64_w, i32_w]
  rfl
 refine one_ (i := 4) (N := some 8) #[true, true, true, true, true, false] rfl rfl (by kernel_rfl) (by decide) (fun K hK => ?_)
 refine goes_ Try.func46 (by kernel_rfl) rfl #[.int .i64 n] (by rfl) rfl rfl (by simp only [List.map_toArray, List.map_cons, List.map_nil]; rfl) ?_
 with_reducible refine (num_Put16.calls _ _ _ HT.out).mono ?_
 rintro e w2 ⟨rfl, hb⟩
 refine ⟨_, rfl, ?_⟩
 have KB := aS_ (below_step (w1_ (Below.refl w.heap.size w)) hb)
 clear hb
 refine hK.out _ _ trivial (fun hHeld => ?_)
 clear hK K
 refine norm_ (a' := ?_) ?_ ?_
 rotate_left
 ·show Act.put _ (some 8) _ = _
  simp only [Act.put, List.setIfInBounds_toArray, List.set_cons_zero, List.set_cons_succ, i64_w, i32_w]
  rfl
 refine one_ (i := 5) (N := some 9) #[true, true, true, true, true, true] rfl rfl (by kernel_rfl) (by decide) (fun K hK => ?_)
 refine goes_ Try.func44 (by kernel_rfl) rfl #[.pointer (some ⟨b, 0, none⟩), .string t] (by rfl) rfl rfl (by simp only [List.map_toArray, List.map_cons, List.map_nil]; rfl) ?_
 refine (pw_put B b o t _ (pw_keep HB.out KB.out) (by have := HL.out; omega) (Nat.le_trans HW.out KB.out.size)).mono ?_
 rintro e w3 ⟨rfl, hi, hb⟩
 refine ⟨_, rfl, ?_⟩
 have HI := aS_ hi
 have KB3 := aS_ ((pw_fr.full HW.out KB.out).trans hb)
 clear hi hb
 refine hK.out _ _ trivial (fun hHeld => ?_)
 clear hK K
 refine norm_ (a' := ?_) ?_ ?_
 rotate_left
 ·show Act.put _ (some 9) _ = _
  simp only [Act.put, List.setIfInBounds_toArray, List.set_cons_zero, List.set_cons_succ, i64_w, i32_w]
  rfl
 refine done_ (by kernel_rfl) ?_
 go_wp2_with fail
 go_end0
 exact ⟨rfl, HI.out, KB3.out⟩
set_option maxHeartbeats 4000000 in
set_option maxRecDepth 100000 in
theorem pw_place (B b : Nat) (o : List UInt8) (n : Int) (t : ByteArray) (w : World) (h : Lib.IsBuilder 45 5 B b (Lib.byteCells o) w) (hw : B ≤ w.heap.size) (ht : num_Put32.f n = some t) (hl : o.length + t.size ≤ 1099511627776) :
  Calls Try.prog 16 #[.pointer (some ⟨b, 0, none⟩), .int .i64 n] w fun e w' => e = .returned (.tuple #[]) ∧ Lib.IsBuilder 45 5 B b (Lib.byteCells (o ++ t.data.toList)) w' ∧ pw_fr B b w w' := by
 have HB := aS_ h
 have HW := aS_ hw
 have HT := aS_ ht
 have HL := aS_ hl
 clear h hw ht hl
 go_enter Try.func16, Try.ntmps16
 go_upto_region 0 with fail
 refine start_ (n := 6) (S := fun w' => True) (ds := []) #[false, false, false, false, false, false] (by kernel_rfl) rfl rfl trivial (fun hHeld => ?_)
 refine pure_ (i := 0) (N := some 4) (v := ?_) (a' := ?_) #[true, false, false, false, false, false] rfl rfl (by kernel_rfl) (fun _ _ _ h => h) (Or.inl ⟨by rfl, ?_⟩) ?_ ?_
 rotate_left
 ·intro w'
  go_simp
  with_reducible rfl
 rotate_left
 ·simp only [Act.put, List.setIfInBounds_toArray, List.set_cons_zero, List.set_cons_succ, i64_w, i32_w]
  rfl
 refine pure_ (i := 1) (N := some 5) (v := ?_) (a' := ?_) #[true, true, false, false, false, false] rfl rfl (by kernel_rfl) (fun _ _ _ h => h) (Or.inl ⟨by rfl, ?_⟩) ?_ ?_
 rotate_left
 ·intro w'
  go_simp
  with_reducible rfl
 rotate_left
 ·simp only [Act.put, List.setIfInBounds_toArray, List.set_cons_zero, List.set_cons_succ, i64_w, i32_w]
  rfl
 refine pure_ (i := 2) (N := some 6) (v := ?_) (a' := ?_) #[true, true, true, false, false, false] rfl rfl (by kernel_rfl) (fun _ _ _ h => h) (Or.inl ⟨by rfl, ?_⟩) ?_ ?_
 rotate_left
 ·intro w'
  go_simp
  with_reducible rfl
 rotate_left
 ·simp only [Act.put, List.setIfInBounds_toArray, List.set_cons_zero, List.set_cons_succ, i64_w, i32_w]
  rfl
 refine pure_ (i := 3) (N := some 7) (v := ?_) (a' := ?_) #[true, true, true, true, false, false] rfl rfl (by kernel_rfl) (fun _ _ _ h => h) (Or.inl ⟨by rfl, ?_⟩) ?_ ?_
 rotate_left
 ·intro w'
  go_simp
  with_reducible rfl
 rotate_left
 ·simp only [Act.put, List.setIfInBounds_toArray, List.set_cons_zero, List.set_cons_succ, i64_w, i32_w]
  rfl
 refine one_ (i := 4) (N := some 8) #[true, true, true, true, true, false] rfl rfl (by kernel_rfl) (by decide) (fun K hK => ?_)
 refine goes_ Try.func45 (by kernel_rfl) rfl #[.int .i64 n] (by rfl) rfl rfl (by simp only [List.map_toArray, List.map_cons, List.map_nil]; rfl) ?_
 with_reducible refine (num_Put32.calls _ _ _ HT.out).mono ?_
 rintro e w2 ⟨rfl, hb⟩
 refine ⟨_, rfl, ?_⟩
 have KB := aS_ (below_step (w1_ (Below.refl w.heap.size w)) hb)
 clear hb
 refine hK.out _ _ trivial (fun hHeld => ?_)
 clear hK K
 refine norm_ (a' := ?_) ?_ ?_
 rotate_left
 ·show Act.put _ (some 8) _ = _
  simp only [Act.put, List.setIfInBounds_toArray, List.set_cons_zero, List.set_cons_succ, i64_w, i32_w]
  rfl
 refine one_ (i := 5) (N := some 9) #[true, true, true, true, true, true] rfl rfl (by kernel_rfl) (by decide) (fun K hK => ?_)
 refine goes_ Try.func44 (by kernel_rfl) rfl #[.pointer (some ⟨b, 0, none⟩), .string t] (by rfl) rfl rfl (by simp only [List.map_toArray, List.map_cons, List.map_nil]; rfl) ?_
 refine (pw_put B b o t _ (pw_keep HB.out KB.out) (by have := HL.out; omega) (Nat.le_trans HW.out KB.out.size)).mono ?_
 rintro e w3 ⟨rfl, hi, hb⟩
 refine ⟨_, rfl, ?_⟩
 have HI := aS_ hi
 have KB3 := aS_ ((pw_fr.full HW.out KB.out).trans hb)
 clear hi hb
 refine hK.out _ _ trivial (fun hHeld => ?_)
 clear hK K
 refine norm_ (a' := ?_) ?_ ?_
 rotate_left
 ·show Act.put _ (some 9) _ = _
  simp only [Act.put, List.setIfInBounds_toArray, List.set_cons_zero, List.set_cons_succ, i64_w, i32_w]
  rfl
 refine done_ (by kernel_rfl) ?_
 go_wp2_with fail
 go_end0
 exact ⟨rfl, HI.out, KB3.out⟩
set_option maxHeartbeats 4000000 in
set_option maxRecDepth 100000 in
theorem pw_flag (B b : Nat) (o : List UInt8) (f : Bool) (w : World) (h : Lib.IsBuilder 45 5 B b (Lib.byteCells o) w) (hw : B ≤ w.heap.size) (hl : o.length + 1 ≤ 1099511627776) :
  Calls Try.prog 18 #[.pointer (some ⟨b, 0, none⟩), .bool f] w fun e w' => e = .returned (.tuple #[]) ∧ Lib.IsBuilder 45 5 B b (Lib.byteCells (o ++ [if f = true then 1 else 0])) w' ∧ pw_fr B b w w' := by
 have HB := aS_ h
 have HW := aS_ hw
 have HL := aS_ hl
 clear h hw hl
 cases f with
 | false =>
  go_enter Try.func18, Try.ntmps18
  go_wp2_with (go_at_call 47; refine (pwb_one B b (Lib.byteCells o) 0 _ HB.out (by have := HL.out; rw [Lib.byteCells_length]; omega) HW.out).mono ?_; rintro e w4 ⟨rfl, hi, hb⟩; have HI4 := aS_ hi; have KB4 := aS_ hb; clear hi hb)
  go_end0
  refine ⟨rfl, Or.inr ?_, KB4.out⟩
  rw [Lib.byteCells_append]
  exact HI4.out
 | true =>
  go_enter Try.func18, Try.ntmps18
  go_wp2_with (go_at_call 47; refine (pwb_one B b (Lib.byteCells o) 1 _ HB.out (by have := HL.out; rw [Lib.byteCells_length]; omega) HW.out).mono ?_; rintro e w4 ⟨rfl, hi, hb⟩; have HI4 := aS_ hi; have KB4 := aS_ hb; clear hi hb)
  go_end0
  refine ⟨rfl, Or.inr ?_, KB4.out⟩
  rw [Lib.byteCells_append]
  exact HI4.out
/-- What holds while a state is laid: its box, the builder with what was put, and nothing below. -/
def pw_st (w0 : World) (b : Nat) (cs : Array Value) (o : List UInt8) (W : World) : Prop :=
 W.heap[w0.heap.size]? = some (.cells cs 26 (0, 0)) ∧ Lib.IsBuilder 45 5 (b) (b) (Lib.byteCells o) W ∧ Below w0.heap.size w0 W ∧ w0.heap.size < b ∧ b < W.heap.size
theorem pw_st.below {b : Nat} {w0 W W' : World} {cs : Array Value} {o : List UInt8} (h : pw_st w0 b cs o W) (hb : Below W.heap.size W W') : pw_st w0 b cs o W' :=
 ⟨(hb.block _ (by have := h.2.2.2; omega)).trans h.1, pw_keep h.2.1 hb, h.2.2.1.trans (hb.mono (by have := h.2.2.2; omega)), h.2.2.2.1, Nat.lt_of_lt_of_le h.2.2.2.2 hb.size⟩
theorem pw_st.alloc {b : Nat} {w0 W : World} {cs : Array Value} {o : List UInt8} (h : pw_st w0 b cs o W) (x : Obj) : pw_st w0 b cs o (W.alloc x) := h.below (wA (Below.refl _ _) x)
theorem pw_st.drew {b : Nat} {w0 W : World} {cs : Array Value} {o : List UInt8} (h : pw_st w0 b cs o W) : pw_st w0 b cs o W.drew := h.below (below_drew (Below.refl _ _))
theorem pw_st.on {b : Nat} {w0 W W' : World} {cs : Array Value} {o o' : List UInt8} (h : pw_st w0 b cs o W) (hi : Lib.IsBuilder 45 5 (b) (b) (Lib.byteCells o') W') (hb : pw_fr (b) (b) W W') : pw_st w0 b cs o' W' :=
 ⟨(hb.1.block _ h.2.2.2.1).trans h.1, hi, h.2.2.1.trans (hb.1.mono (Nat.le_of_lt h.2.2.2.1)), h.2.2.2.1, Nat.lt_of_lt_of_le h.2.2.2.2 hb.1.size⟩
def pw_addt (o : List UInt8) (s : ByteArray) : Option (List UInt8) := (num_Put32.f (s.size : Int)).bind fun t => if o.length + t.size + s.size ≤ 1099511627776 then some (o ++ t.data.toList ++ s.data.toList) else none
def pw_addc (o : List UInt8) (n : Int) : Option (List UInt8) := (num_Put16.f n).bind fun t => if o.length + t.size ≤ 1099511627776 then some (o ++ t.data.toList) else none
def pw_addp (o : List UInt8) (n : Int) : Option (List UInt8) := (num_Put32.f n).bind fun t => if o.length + t.size ≤ 1099511627776 then some (o ++ t.data.toList) else none
def pw_addf (o : List UInt8) (f : Bool) : Option (List UInt8) := if o.length + 1 ≤ 1099511627776 then some (o ++ [if f = true then 1 else 0]) else none
theorem pw_stt {b : Nat} {w0 w : World} {cs : Array Value} {o o' : List UInt8} (s : ByteArray) (h : pw_st w0 b cs o w) (ha : pw_addt o s = some o') :
  Calls Try.prog 14 #[.pointer (some ⟨b, 0, none⟩), .string s] w fun e w' => e = .returned (.tuple #[]) ∧ pw_st w0 b cs o' w' ∧ pw_fr (b) (b) w w' := by
 obtain ⟨t, ht, ha⟩ := Option.bind_eq_some_iff.mp ha
 split at ha
 ·rename_i hl
  obtain rfl := Option.some.inj ha
  refine (pw_text _ _ o s t w h.2.1 (Nat.le_of_lt h.2.2.2.2) ht hl).mono ?_
  rintro e w' ⟨rfl, hi, hb⟩
  exact ⟨rfl, h.on hi hb, hb⟩
 ·cases ha
theorem pw_stc {b : Nat} {w0 w : World} {cs : Array Value} {o o' : List UInt8} (n : Int) (h : pw_st w0 b cs o w) (ha : pw_addc o n = some o') :
  Calls Try.prog 15 #[.pointer (some ⟨b, 0, none⟩), .int .i64 n] w fun e w' => e = .returned (.tuple #[]) ∧ pw_st w0 b cs o' w' ∧ pw_fr (b) (b) w w' := by
 obtain ⟨t, ht, ha⟩ := Option.bind_eq_some_iff.mp ha
 split at ha
 ·rename_i hl
  obtain rfl := Option.some.inj ha
  refine (pw_count _ _ o n t w h.2.1 (Nat.le_of_lt h.2.2.2.2) ht hl).mono ?_
  rintro e w' ⟨rfl, hi, hb⟩
  exact ⟨rfl, h.on hi hb, hb⟩
 ·cases ha
theorem pw_stp {b : Nat} {w0 w : World} {cs : Array Value} {o o' : List UInt8} (n : Int) (h : pw_st w0 b cs o w) (ha : pw_addp o n = some o') :
  Calls Try.prog 16 #[.pointer (some ⟨b, 0, none⟩), .int .i64 n] w fun e w' => e = .returned (.tuple #[]) ∧ pw_st w0 b cs o' w' ∧ pw_fr (b) (b) w w' := by
 obtain ⟨t, ht, ha⟩ := Option.bind_eq_some_iff.mp ha
 split at ha
 ·rename_i hl
  obtain rfl := Option.some.inj ha
  refine (pw_place _ _ o n t w h.2.1 (Nat.le_of_lt h.2.2.2.2) ht hl).mono ?_
  rintro e w' ⟨rfl, hi, hb⟩
  exact ⟨rfl, h.on hi hb, hb⟩
 ·cases ha
theorem pw_stf {b : Nat} {w0 w : World} {cs : Array Value} {o o' : List UInt8} (f : Bool) (h : pw_st w0 b cs o w) (ha : pw_addf o f = some o') :
  Calls Try.prog 18 #[.pointer (some ⟨b, 0, none⟩), .bool f] w fun e w' => e = .returned (.tuple #[]) ∧ pw_st w0 b cs o' w' ∧ pw_fr (b) (b) w w' := by
 unfold pw_addf at ha
 split at ha
 ·rename_i hl
  obtain rfl := Option.some.inj ha
  refine (pw_flag _ _ o f w h.2.1 (Nat.le_of_lt h.2.2.2.2) hl).mono ?_
  rintro e w' ⟨rfl, hi, hb⟩
  exact ⟨rfl, h.on hi hb, hb⟩
 ·cases ha
theorem pw_drop88 (l : List S88) (i : Nat) (h : i < l.length) : l.drop i = rd_T88 l (i : Int) :: l.drop (i + 1) := by
 rw [List.drop_eq_getElem_cons h]
 simp [rd_T88, List.getD_eq_getElem?_getD, List.getElem?_eq_getElem h]
theorem pw_drop38 (l : List S38) (i : Nat) (h : i < l.length) : l.drop i = rd_T38 l (i : Int) :: l.drop (i + 1) := by
 rw [List.drop_eq_getElem_cons h]
 simp [rd_T38, List.getD_eq_getElem?_getD, List.getElem?_eq_getElem h]
theorem pw_drop49 (l : List S49) (i : Nat) (h : i < l.length) : l.drop i = rd_T49 l (i : Int) :: l.drop (i + 1) := by
 rw [List.drop_eq_getElem_cons h]
 simp [rd_T49, List.getD_eq_getElem?_getD, List.getElem?_eq_getElem h]
def pw_edits1 : List S88 → List UInt8 → Option (List UInt8)
 | [], o => some o
 | x :: r, o => (pw_addp o x.f0).bind fun o => (pw_addt o x.f1).bind fun o => (pw_addt o x.f2).bind fun o => pw_edits1 r o
def pw_edits (l : List S88) (o : List UInt8) : Option (List UInt8) := if 1000000 < l.length then none else (pw_addc o (l.length : Int)).bind fun o => pw_edits1 l o
set_option maxHeartbeats 8000000 in
set_option maxRecDepth 100000 in
theorem pw_ste {b : Nat} {w0 w : World} {cs : Array Value} {o o' : List UInt8} (A : Option Addr) (c : Nat) (l : List S88) (hC : Kd.C k88 w0 A l.length l) (hc : l.length ≤ c) (h : pw_st w0 b cs o w) (ha : pw_edits l o = some o') :
  Calls Try.prog 19 #[.pointer (some ⟨b, 0, none⟩), .slice A l.length c] w fun e w' => e = .returned (.tuple #[]) ∧ pw_st w0 b cs o' w' ∧ pw_fr (b) (b) w w' := by
 unfold pw_edits at ha
 have hln : ¬ 1000000 < l.length := fun c => by rw [if_pos c] at ha; cases ha
 rw [if_neg hln] at ha
 obtain ⟨o1, h1, ha⟩ := Option.bind_eq_some_iff.mp ha
 have HLN := aS_ hln
 have H1 := aS_ h1
 have HA := aS_ ha
 have HS := aS_ h
 have HC := aS_ hC
 have Hc := aS_ hc
 clear hln h1 ha h hC hc
 go_enter Try.func19, Try.ntmps19
 go_wp2_with (go_at_call 15; refine (pw_stc (l.length : Int) HS.out H1.out).mono ?_; rintro e w2 ⟨rfl, hs, hb⟩; replace HS := aS_ hs; have HF := aS_ hb; clear hs hb)
 clear H1
 go_loopg [12] l.length (fun kq v12 wx => ∃ (i : Nat) (oq : List UInt8), v12 = .int .i64 (i : Int) ∧ Aside0 (i + kq = l.length) ∧ Aside0 (pw_edits1 (l.drop i) oq = some o') ∧ Aside0 (pw_st w0 b cs oq wx) ∧ Aside0 (pw_fr (b) (b) w wx))
 case atStart => exact ⟨0, o1, rfl, ⟨Nat.zero_add _⟩, HA, HS, HF⟩
 case round =>
  clear HA HS HF
  obtain ⟨i, oq, rfl, HI, HQ, HS, HF⟩ := hrel
  cases gk with
  | zero =>
   obtain rfl : i = l.length := by have := HI.out; omega
   have c0 : decide ((l.length : Int) < (l.length : Int)) = false := decide_eq_false (by omega)
   have hq := HQ.out
   rw [List.drop_length] at hq
   obtain rfl := Option.some.inj hq
   clear hq HQ
   go_wp2_with fail
   go_end0
   exact ⟨rfl, HS.out, HF.out⟩
  | succ k1 =>
   have hi : i < l.length := by have := HI.out; omega
   have c0 : decide ((i : Int) < (l.length : Int)) = true := decide_eq_true (by omega)
   have hq := HQ.out
   rw [pw_drop88 l i hi] at hq
   have p0 : (0 : Int) ≤ (i : Int) := by omega
   have q0 : (i : Int) < (l.length : Int) := by omega
   obtain ⟨ad, e0, hx0, hx1, hx2⟩ := at_T88 (Kd.C_below HC.out HS.out.2.2.1) (i : Int) p0 q0
   cases e0
   obtain ⟨⟨at_, old, new_⟩, hx⟩ : ∃ x, rd_T88 l (i : Int) = x := ⟨_, rfl⟩
   rw [hx] at hq hx0 hx1 hx2
   simp only [Int.toNat_natCast] at hx0 hx1 hx2
   clear hx
   obtain ⟨o2, h2, hq⟩ := Option.bind_eq_some_iff.mp hq
   obtain ⟨o3, h3, hq⟩ := Option.bind_eq_some_iff.mp hq
   obtain ⟨o4, h4, hq⟩ := Option.bind_eq_some_iff.mp hq
   have H2 := aS_ h2
   have H3 := aS_ h3
   have H4 := aS_ h4
   have HZ := aS_ hq
   clear h2 h3 h4 hq HQ
   have p0 := eq_true p0
   have q0 := eq_true q0
   go_upto_region 4 with fail
   obtain ⟨wc, hwc⟩ : ∃ x : World, wr.alloc (.cells #[.int .i64 at_, .string old, .string new_] 88) = x := ⟨_, rfl⟩
   obtain ⟨ge, hge⟩ : ∃ x : Nat, wr.heap.size = x := ⟨_, rfl⟩
   rw [hwc]
   rw [hge]
   have KM : wc.heap[ge]? = some (.cells #[.int .i64 at_, .string old, .string new_] 88 (0, 0)) := by rw [← hwc, ← hge]; exact heap_alloc_new wr _
   have hne : ge ≠ b := by have := HS.out.2.2.2; omega
   replace KM := aS_ KM
   have HNE := aS_ hne
   replace HF := aS_ (HF.out.trans (pw_fr.full (b := b) (Nat.le_of_lt HS.out.2.2.2.2) (wA (Below.refl wr.heap.size wr) (.cells #[.int .i64 at_, .string old, .string new_] 88))))
   replace HS := aS_ (pw_st.alloc HS.out (.cells #[.int .i64 at_, .string old, .string new_] 88))
   rw [hwc] at HS HF
   clear hwc hge hne
   have z0 := (blk_cell KM.out 0).trans rfl
   go_wp2_with (first
    | (go_at_call 16; refine (pw_stp at_ HS.out H2.out).mono ?_; rintro e w5 ⟨rfl, hs, hb⟩; replace HS := aS_ hs; replace HF := aS_ (HF.out.trans hb); replace KM := aS_ (hb.blk KM.out (by decide) HNE.out); clear hs hb; have z1 := (blk_cell KM.out 1).trans rfl)
    | (go_at_call 14; refine (pw_stt old HS.out H3.out).mono ?_; rintro e w6 ⟨rfl, hs, hb⟩; replace HS := aS_ hs; replace HF := aS_ (HF.out.trans hb); replace KM := aS_ (hb.blk KM.out (by decide) HNE.out); clear hs hb; have z2 := (blk_cell KM.out 2).trans rfl)
    | (go_at_call 14; refine (pw_stt new_ HS.out H4.out).mono ?_; rintro e w7 ⟨rfl, hs, hb⟩; replace HS := aS_ hs; replace HF := aS_ (HF.out.trans hb); replace KM := aS_ (hb.blk KM.out (by decide) HNE.out); clear hs hb))
   have ws : wrap64 ((i : Int) + 1) = ((i + 1 : Nat) : Int) := by
    have := HI.out
    have := HLN.out
    unfold wrap64
    omega
   go_wp2_with fail
   go_roundg k1
   case measure => omega
   case rel => exact ⟨i + 1, o4, congrArg (Value.int .i64) ws, ⟨by have := HI.out; omega⟩, HZ, HS, HF⟩
def pw_steps1 : List S38 → List UInt8 → Option (List UInt8)
 | [], o => some o
 | x :: r, o => (pw_edits x.f0 o).bind fun o => pw_steps1 r o
def pw_steps (l : List S38) (o : List UInt8) : Option (List UInt8) := if 1000000 < l.length then none else (pw_addc o (l.length : Int)).bind fun o => pw_steps1 l o
set_option maxHeartbeats 8000000 in
set_option maxRecDepth 100000 in
theorem pw_sts {b : Nat} {w0 w : World} {cs : Array Value} {o o' : List UInt8} (A : Option Addr) (c : Nat) (l : List S38) (hC : Kd.C k38 w0 A l.length l) (hc : l.length ≤ c) (h : pw_st w0 b cs o w) (ha : pw_steps l o = some o') :
  Calls Try.prog 17 #[.pointer (some ⟨b, 0, none⟩), .slice A l.length c] w fun e w' => e = .returned (.tuple #[]) ∧ pw_st w0 b cs o' w' ∧ pw_fr (b) (b) w w' := by
 unfold pw_steps at ha
 have hln : ¬ 1000000 < l.length := fun c => by rw [if_pos c] at ha; cases ha
 rw [if_neg hln] at ha
 obtain ⟨o1, h1, ha⟩ := Option.bind_eq_some_iff.mp ha
 have HLN := aS_ hln
 have H1 := aS_ h1
 have HA := aS_ ha
 have HS := aS_ h
 have HC := aS_ hC
 have Hc := aS_ hc
 clear hln h1 ha h hC hc
 go_enter Try.func17, Try.ntmps17
 go_wp2_with (go_at_call 15; refine (pw_stc (l.length : Int) HS.out H1.out).mono ?_; rintro e w2 ⟨rfl, hs, hb⟩; replace HS := aS_ hs; have HF := aS_ hb; clear hs hb)
 clear H1
 go_loopg [12] l.length (fun kq v12 wx => ∃ (i : Nat) (oq : List UInt8), v12 = .int .i64 (i : Int) ∧ Aside0 (i + kq = l.length) ∧ Aside0 (pw_steps1 (l.drop i) oq = some o') ∧ Aside0 (pw_st w0 b cs oq wx) ∧ Aside0 (pw_fr (b) (b) w wx))
 case atStart => exact ⟨0, o1, rfl, ⟨Nat.zero_add _⟩, HA, HS, HF⟩
 case round =>
  clear HA HS HF
  obtain ⟨i, oq, rfl, HI, HQ, HS, HF⟩ := hrel
  cases gk with
  | zero =>
   obtain rfl : i = l.length := by have := HI.out; omega
   have c0 : decide ((l.length : Int) < (l.length : Int)) = false := decide_eq_false (by omega)
   have hq := HQ.out
   rw [List.drop_length] at hq
   obtain rfl := Option.some.inj hq
   clear hq HQ
   go_wp2_with fail
   go_end0
   exact ⟨rfl, HS.out, HF.out⟩
  | succ k1 =>
   have hi : i < l.length := by have := HI.out; omega
   have c0 : decide ((i : Int) < (l.length : Int)) = true := decide_eq_true (by omega)
   have hq := HQ.out
   rw [pw_drop38 l i hi] at hq
   have p0 : (0 : Int) ≤ (i : Int) := by omega
   have q0 : (i : Int) < (l.length : Int) := by omega
   obtain ⟨ad, A0, c0_, e0, hy0, hcap, hin⟩ := at_T38 HC.out (i : Int) p0 q0
   cases e0
   have hx0 := (HS.out.2.2.1.cell (World.block_lt_of_cell? w0 _ hy0)).trans hy0
   clear hy0
   obtain ⟨⟨xs⟩, hx⟩ : ∃ x, rd_T38 l (i : Int) = x := ⟨_, rfl⟩
   rw [hx] at hq hx0 hcap hin
   simp only [Int.toNat_natCast] at hx0
   clear hx
   obtain ⟨o2, h2, hq⟩ := Option.bind_eq_some_iff.mp hq
   have H2 := aS_ h2
   have HZ := aS_ hq
   have HCAP := aS_ hcap
   have HIN := aS_ hin
   clear h2 hq HQ hcap hin
   have p0 := eq_true p0
   have q0 := eq_true q0
   go_upto_region 4 with fail
   obtain ⟨wc, hwc⟩ : ∃ x : World, wr.alloc (.cells #[.slice A0 xs.length c0_] 38) = x := ⟨_, rfl⟩
   obtain ⟨ge, hge⟩ : ∃ x : Nat, wr.heap.size = x := ⟨_, rfl⟩
   rw [hwc]
   rw [hge]
   have KM : wc.heap[ge]? = some (.cells #[.slice A0 xs.length c0_] 38 (0, 0)) := by rw [← hwc, ← hge]; exact heap_alloc_new wr _
   replace KM := aS_ KM
   replace HF := aS_ (HF.out.trans (pw_fr.full (b := b) (Nat.le_of_lt HS.out.2.2.2.2) (wA (Below.refl wr.heap.size wr) (.cells #[.slice A0 xs.length c0_] 38))))
   replace HS := aS_ (pw_st.alloc HS.out (.cells #[.slice A0 xs.length c0_] 38))
   rw [hwc] at HS HF
   clear hwc hge
   have z0 := (blk_cell KM.out 0).trans rfl
   have ws : wrap64 ((i : Int) + 1) = ((i + 1 : Nat) : Int) := by
    have := HI.out
    have := HLN.out
    unfold wrap64
    omega
   go_wp2_with (go_at_call 19; refine (pw_ste A0 c0_ xs HIN.out HCAP.out HS.out H2.out).mono ?_; rintro e w5 ⟨rfl, hs, hb⟩; replace HS := aS_ hs; replace HF := aS_ (HF.out.trans hb); clear hs hb)
   go_roundg k1
   case measure => omega
   case rel => exact ⟨i + 1, o2, congrArg (Value.int .i64) ws, ⟨by have := HI.out; omega⟩, HZ, HS, HF⟩
def pw_marks1 : List S49 → List UInt8 → Option (List UInt8)
 | [], o => some o
 | x :: r, o => (pw_addt o x.f0).bind fun o => (pw_addp o x.f1).bind fun o => pw_marks1 r o
def pack_Lay.o (a0_0 : ByteArray) (l0_1 : List S49) (l0_2 l0_3 : List S38) (a0_4 : Bool) (l0_5 : List S88) : Option (List UInt8) :=
 if 1000000 < l0_1.length then none else (pw_addt [] a0_0).bind fun o => (pw_addc o (l0_1.length : Int)).bind fun o => (pw_marks1 l0_1 o).bind fun o => (pw_steps l0_2 o).bind fun o => (pw_steps l0_3 o).bind fun o => (pw_addf o a0_4).bind fun o => (pw_edits l0_5 o).bind fun o => if o = [] then none else some o
def pack_Lay.f (k : Nat) (a0_0 : ByteArray) (l0_1 : List S49) (l0_2 l0_3 : List S38) (a0_4 : Bool) (l0_5 : List S88) : Option (ByteArray × Int) :=
 (state_Right.f k a0_0 l0_1 l0_2 l0_3 a0_4 l0_5).bind fun b => if b = true then ((pack_Lay.o a0_0 l0_1 l0_2 l0_3 a0_4 l0_5).bind fun o => some ((⟨o.toArray⟩ : ByteArray), 0)) else some ((⟨#[]⟩ : ByteArray), 5)
theorem pack_Lay.mono : ∀ a0_0 l0_1 l0_2 l0_3 a0_4 l0_5 k, LeO (pack_Lay.f k a0_0 l0_1 l0_2 l0_3 a0_4 l0_5) (pack_Lay.f (k + 1) a0_0 l0_1 l0_2 l0_3 a0_4 l0_5) := fun a0_0 l0_1 l0_2 l0_3 a0_4 l0_5 k =>
 LeO.bind (state_Right.mono _ _ _ _ _ _ _) fun _ => LeO.refl _
set_option maxHeartbeats 1000000 in
set_option maxRecDepth 100000 in
theorem pw_string (B b : Nat) (l : List UInt8) (w : World) (h : Lib.IsBuilder 45 5 B b (Lib.byteCells l) w) (h0 : l ≠ []) :
  Calls Try.prog 20 #[.pointer (some ⟨b, 0, none⟩)] w fun e w' => e = .returned (.string ⟨l.toArray⟩) ∧ Below B w w' := by
 obtain ⟨p, hB, v, hbk, hown, hne⟩ : ∃ p, Lib.BuilderAt 45 5 B b p (Lib.byteCells l) w := by
  rcases h with h | h
  ·exact ⟨_, h⟩
  ·exact ⟨_, h⟩
 have hl0 : l.length ≠ 0 := by simpa using h0
 rw [Lib.byteCells_length] at hown
 obtain ⟨g, cap, cur, rfl, hbg, hg, hnc, hcm, hcs, htake⟩ : ∃ g cap cur, v = .slice (some ⟨g, 0, none⟩) l.length cap ∧ B ≤ g ∧ w.heap[g]? = some (.cells cur 5 (0, 0)) ∧ l.length ≤ cap ∧ cap ≤ maxLen ∧ cur.size = cap * 1 ∧ cur.toList.take (l.length * 1) = Lib.byteCells l := by
  rcases hown.2 with ⟨_, hz⟩ | ⟨g, cap, cur, hv, r⟩
  ·exact absurd hz hl0
  ·exact ⟨g, cap, cur, hv, r⟩
 have c1 : w.drew.cell? ⟨b, 1, none⟩ = some (.slice (some ⟨g, 0, none⟩) l.length cap) := by
  have : w.drew.heap[b]? = some (.cells #[p, .slice (some ⟨g, 0, none⟩) l.length cap] 45 (0, 0)) := hbk
  rw [Lib.cell_of_heap this]; rfl
 have hSD : (Builtin.unsafeSliceData_ #[39] 89 #[.slice (some ⟨g, 0, none⟩) l.length cap]).run Try.prog w.drew = .ok (.pointer (some ⟨g, 0, none⟩)) w.drew :=
  Lib.run_unsafeSliceData_row _ _ _ _ _ _ (by omega)
 have hUS : (Builtin.unsafeString_ #[89, 3] 9 #[.pointer (some ⟨g, 0, none⟩), .int .i64 l.length]).run Try.prog w.drew = .ok (.string ⟨l.toArray⟩) (w.drew.freeze ⟨g, 0, none⟩ l.length) := by
  refine Lib.run_unsafeString_row w.drew 89 3 9 5 Try.underlying89 (by kernel_rfl) g cur.size (by have hg' : w.drew.heap[g]? = some (.cells cur 5 (0, 0)) := hg; simp [World.shape?, hg']) l h0 (by omega) (by unfold maxLen at hcm; omega) ?_
  intro j x hx
  have := hown.cells (g := g) rfl j (.int .u8 x.toNat) (by simp [Lib.byteCells, hx])
  exact this
 have mixed : Try.prog.follows Departure.mixedOrders = true := by kernel_rfl
 clear h hown hne hbk hg hcs htake
 go_enter Try.func20, Try.ntmps20
 go_wp2
 go_region_o
 all_goals (go_wp2; go_ret; exact ⟨rfl, Lib.below_freeze (Below.drew (Below.refl B w)) (p := ⟨g, 0, none⟩) hbg _⟩)
set_option maxHeartbeats 16000000 in
set_option maxRecDepth 100000 in
theorem pack_Lay.calls (k : Nat) (a0_0 : ByteArray) (A0_1 : Option Addr) (c0_1 : Nat) (l0_1 : List S49) (A0_2 : Option Addr) (c0_2 : Nat) (l0_2 : List S38) (A0_3 : Option Addr) (c0_3 : Nat) (l0_3 : List S38) (a0_4 : Bool) (A0_5 : Option Addr) (c0_5 : Nat) (l0_5 : List S88) (r1 : ByteArray) (r2 : Int) (w : World) (hr0_1 : Kd.C k49 w A0_1 l0_1.length l0_1) (hc0_1 : l0_1.length ≤ c0_1) (hr0_2 : Kd.C k38 w A0_2 l0_2.length l0_2) (hc0_2 : l0_2.length ≤ c0_2) (hr0_3 : Kd.C k38 w A0_3 l0_3.length l0_3) (hc0_3 : l0_3.length ≤ c0_3) (hr0_5 : Kd.C k88 w A0_5 l0_5.length l0_5) (hc0_5 : l0_5.length ≤ c0_5) (h : pack_Lay.f k a0_0 l0_1 l0_2 l0_3 a0_4 l0_5 = some (r1, r2)) :
  Calls Try.prog 8 #[.agg #[.string a0_0, .slice A0_1 l0_1.length c0_1, .slice A0_2 l0_2.length c0_2, .slice A0_3 l0_3.length c0_3, .bool a0_4, .slice A0_5 l0_5.length c0_5]] w fun e w' => e = .returned (.tuple #[.string r1, .int .i64 r2]) ∧ Below w.heap.size w w' := by
 have HC1 := aS_ hr0_1
 have Hc1 := aS_ hc0_1
 have HC2 := aS_ hr0_2
 have Hc2 := aS_ hc0_2
 have HC3 := aS_ hr0_3
 have Hc3 := aS_ hc0_3
 have HC5 := aS_ hr0_5
 have Hc5 := aS_ hc0_5
 clear hr0_1 hr0_2 hr0_3 hr0_5 hc0_1 hc0_2 hc0_3 hc0_5
 unfold pack_Lay.f at h
 obtain ⟨b, hR, h⟩ := Option.bind_eq_some_iff.mp h
 have HR := aS_ hR
 clear hR
 have HB0 := aS_ (wA (Below.refl w.heap.size w) (.cells #[.string a0_0, .slice A0_1 l0_1.length c0_1, .slice A0_2 l0_2.length c0_2, .slice A0_3 l0_3.length c0_3, .bool a0_4, .slice A0_5 l0_5.length c0_5] 26))
 have KB0 := aS_ (heap_alloc_new w (.cells #[.string a0_0, .slice A0_1 l0_1.length c0_1, .slice A0_2 l0_2.length c0_2, .slice A0_3 l0_3.length c0_3, .bool a0_4, .slice A0_5 l0_5.length c0_5] 26))
 have y0 := (blk_cell KB0.out 0).trans rfl
 have y1 := (blk_cell KB0.out 1).trans rfl
 have y2 := (blk_cell KB0.out 2).trans rfl
 have y3 := (blk_cell KB0.out 3).trans rfl
 have y4 := (blk_cell KB0.out 4).trans rfl
 have y5 := (blk_cell KB0.out 5).trans rfl
 cases b with
 | false =>
  rw [if_neg Bool.false_ne_true] at h
  obtain ⟨rfl, rfl⟩ := Prod.mk.inj (Option.some.inj h)
  clear h
  go_enter Try.func8, Try.ntmps8
  go_wp2_with (go_at_call 13; refine (state_Right.calls k a0_0 A0_1 c0_1 l0_1 A0_2 c0_2 l0_2 A0_3 c0_3 l0_3 a0_4 A0_5 c0_5 l0_5 false _ (Kd.C_below HC1.out HB0.out) Hc1.out (Kd.C_below HC2.out HB0.out) Hc2.out (Kd.C_below HC3.out HB0.out) Hc3.out (Kd.C_below HC5.out HB0.out) Hc5.out HR.out).mono ?_; rintro e w2 ⟨rfl, hb⟩; have KE := aS_ (below_step HB0.out hb); clear hb)
  go_ret2
  exact ⟨rfl, KE.out⟩
 | true =>
  rw [if_pos rfl] at h
  obtain ⟨o, ho, h⟩ := Option.bind_eq_some_iff.mp h
  obtain ⟨rfl, rfl⟩ := Prod.mk.inj (Option.some.inj h)
  clear h
  unfold pack_Lay.o at ho
  have hln : ¬ 1000000 < l0_1.length := fun c => by rw [if_pos c] at ho; cases ho
  rw [if_neg hln] at ho
  have HLN := aS_ hln
  clear hln
  obtain ⟨o1, h1, ho⟩ := Option.bind_eq_some_iff.mp ho
  obtain ⟨o2, h2, ho⟩ := Option.bind_eq_some_iff.mp ho
  obtain ⟨o3, h3, ho⟩ := Option.bind_eq_some_iff.mp ho
  obtain ⟨o4, h4, ho⟩ := Option.bind_eq_some_iff.mp ho
  obtain ⟨o5, h5, ho⟩ := Option.bind_eq_some_iff.mp ho
  obtain ⟨o6, h6, ho⟩ := Option.bind_eq_some_iff.mp ho
  obtain ⟨o7, h7, ho⟩ := Option.bind_eq_some_iff.mp ho
  have hne : o7 ≠ [] := fun e => by rw [if_pos e] at ho; cases ho
  rw [if_neg hne] at ho
  obtain rfl := Option.some.inj ho
  have H1 := aS_ h1
  have H2 := aS_ h2
  have H3 := aS_ h3
  have H4 := aS_ h4
  have H5 := aS_ h5
  have H6 := aS_ h6
  have H7 := aS_ h7
  have HNE := aS_ hne
  clear h1 h2 h3 h4 h5 h6 h7 hne ho
  go_enter Try.func8, Try.ntmps8
  go_upto_region 3 with (go_at_call 13; refine (state_Right.calls k a0_0 A0_1 c0_1 l0_1 A0_2 c0_2 l0_2 A0_3 c0_3 l0_3 a0_4 A0_5 c0_5 l0_5 true _ (Kd.C_below HC1.out HB0.out) Hc1.out (Kd.C_below HC2.out HB0.out) Hc2.out (Kd.C_below HC3.out HB0.out) Hc3.out (Kd.C_below HC5.out HB0.out) Hc5.out HR.out).mono ?_; rintro e w2 ⟨rfl, hb⟩; have KE := aS_ (below_step HB0.out hb); have KB := aS_ (blk_below KB0.out hb); clear hb)
  clear y0 y1 y2 y3 y4 y5
  obtain ⟨b, hb⟩ : ∃ x : Nat, w2.heap.size = x := ⟨_, rfl⟩
  have hlt : w.heap.size < w2.heap.size := blk_lt KB.out
  have HS : pw_st w w2.heap.size #[.string a0_0, .slice A0_1 l0_1.length c0_1, .slice A0_2 l0_2.length c0_2, .slice A0_3 l0_3.length c0_3, .bool a0_4, .slice A0_5 l0_5.length c0_5] [] (w2.alloc (.cells #[.pointer none, .slice none 0 0] 45)) :=
   ⟨bA KB.out _, Lib.fresh_isBuilder 45 5 w2, wA KE.out _, hlt, by simp⟩
  obtain ⟨wb, hwb⟩ : ∃ x : World, w2.alloc (.cells #[.pointer none, .slice none 0 0] 45) = x := ⟨_, rfl⟩
  rw [hwb, hb] at HS
  replace HS := aS_ HS
  clear hlt
  go_upto_region 4 with fail
  clear hwb hb
  have z0 := (blk_cell HS.out.1 0).trans rfl
  go_wp2_with (first
   | (go_at_call 14; refine (pw_stt a0_0 HS.out H1.out).mono ?_; rintro e w3 ⟨rfl, hs, _⟩; replace HS := aS_ hs; clear hs; have z1 := (blk_cell HS.out.1 1).trans rfl)
   | (go_at_call 15; refine (pw_stc (l0_1.length : Int) HS.out H2.out).mono ?_; rintro e w4 ⟨rfl, hs, _⟩; replace HS := aS_ hs; clear hs; have z2 := (blk_cell HS.out.1 1).trans rfl))
  go_loopg [24] l0_1.length (fun kq v24 wx => ∃ (i : Nat) (oq : List UInt8), v24 = .int .i64 (i : Int) ∧ Aside0 (i + kq = l0_1.length) ∧ Aside0 (pw_marks1 (l0_1.drop i) oq = some o3) ∧ Aside0 (pw_st w b #[.string a0_0, .slice A0_1 l0_1.length c0_1, .slice A0_2 l0_2.length c0_2, .slice A0_3 l0_3.length c0_3, .bool a0_4, .slice A0_5 l0_5.length c0_5] oq wx))
  case atStart => exact ⟨0, o2, rfl, ⟨Nat.zero_add _⟩, H3, HS⟩
  case round =>
   clear HS H1 H2 H3
   obtain ⟨i, oq, rfl, HI, HQ, HS⟩ := hrel
   cases gk with
   | zero =>
    obtain rfl : i = l0_1.length := by have := HI.out; omega
    have c0 : decide ((l0_1.length : Int) < (l0_1.length : Int)) = false := decide_eq_false (by omega)
    have hq := HQ.out
    rw [List.drop_length] at hq
    obtain rfl := Option.some.inj hq
    clear hq HQ
    have z3 := (blk_cell HS.out.1 2).trans rfl
    go_wp2_with (first
     | (go_at_call 17; refine (pw_sts A0_2 c0_2 l0_2 HC2.out Hc2.out HS.out H4.out).mono ?_; rintro e w5 ⟨rfl, hs, _⟩; replace HS := aS_ hs; clear hs; have z4 := (blk_cell HS.out.1 3).trans rfl)
     | (go_at_call 17; refine (pw_sts A0_3 c0_3 l0_3 HC3.out Hc3.out HS.out H5.out).mono ?_; rintro e w6 ⟨rfl, hs, _⟩; replace HS := aS_ hs; clear hs; have z5 := (blk_cell HS.out.1 4).trans rfl)
     | (go_at_call 18; refine (pw_stf a0_4 HS.out H6.out).mono ?_; rintro e w7 ⟨rfl, hs, _⟩; replace HS := aS_ hs; clear hs; have z6 := (blk_cell HS.out.1 5).trans rfl)
     | (go_at_call 19; refine (pw_ste A0_5 c0_5 l0_5 HC5.out Hc5.out HS.out H7.out).mono ?_; rintro e w8 ⟨rfl, hs, _⟩; replace HS := aS_ hs; clear hs)
     | (go_at_call 20; refine (pw_string b b o7 _ HS.out.2.1 HNE.out).mono ?_; rintro e w9 ⟨rfl, hb⟩; have KE := aS_ (HS.out.2.2.1.trans (hb.mono (Nat.le_of_lt HS.out.2.2.2.1))); clear hb))
    go_ret2
    exact ⟨rfl, KE.out⟩
   | succ k1 =>
    have hi : i < l0_1.length := by have := HI.out; omega
    have c0 : decide ((i : Int) < (l0_1.length : Int)) = true := decide_eq_true (by omega)
    have hq := HQ.out
    rw [pw_drop49 l0_1 i hi] at hq
    have p0 : (0 : Int) ≤ (i : Int) := by omega
    have q0 : (i : Int) < (l0_1.length : Int) := by omega
    obtain ⟨ad, e0, hx0, hx1⟩ := at_T49 (Kd.C_below HC1.out HS.out.2.2.1) (i : Int) p0 q0
    cases e0
    obtain ⟨⟨nm, at_⟩, hx⟩ : ∃ x, rd_T49 l0_1 (i : Int) = x := ⟨_, rfl⟩
    rw [hx] at hq hx0 hx1
    simp only [Int.toNat_natCast] at hx0 hx1
    clear hx
    obtain ⟨oa, ha, hq⟩ := Option.bind_eq_some_iff.mp hq
    obtain ⟨oc, hc, hq⟩ := Option.bind_eq_some_iff.mp hq
    have HA := aS_ ha
    have HCC := aS_ hc
    have HZ := aS_ hq
    clear ha hc hq HQ
    have p0 := eq_true p0
    have q0 := eq_true q0
    go_upto_region 9 with fail
    obtain ⟨wc, hwc⟩ : ∃ x : World, wr.alloc (.cells #[.string nm, .int .i64 at_] 49) = x := ⟨_, rfl⟩
    obtain ⟨ge, hge⟩ : ∃ x : Nat, wr.heap.size = x := ⟨_, rfl⟩
    rw [hwc]
    rw [hge]
    have KM : wc.heap[ge]? = some (.cells #[.string nm, .int .i64 at_] 49 (0, 0)) := by rw [← hwc, ← hge]; exact heap_alloc_new wr _
    have hne : ge ≠ b := by have := HS.out.2.2.2; omega
    replace KM := aS_ KM
    have HNE2 := aS_ hne
    replace HS := aS_ (pw_st.alloc HS.out (.cells #[.string nm, .int .i64 at_] 49))
    rw [hwc] at HS
    clear hwc hge hne
    have x0 := (blk_cell KM.out 0).trans rfl
    have ws : wrap64 ((i : Int) + 1) = ((i + 1 : Nat) : Int) := by
     have := HI.out
     have := HLN.out
     unfold wrap64
     omega
    go_wp2_with (first
     | (go_at_call 14; refine (pw_stt nm HS.out HA.out).mono ?_; rintro e w6 ⟨rfl, hs, hb⟩; replace HS := aS_ hs; replace KM := aS_ (hb.blk KM.out (by decide) HNE2.out); clear hs hb; have x1 := (blk_cell KM.out 1).trans rfl)
     | (go_at_call 16; refine (pw_stp at_ HS.out HCC.out).mono ?_; rintro e w5 ⟨rfl, hs, hb⟩; replace HS := aS_ hs; clear hs hb))
    go_roundg k1
    case measure => omega
    case rel => exact ⟨i + 1, oc, congrArg (Value.int .i64) ws, ⟨by have := HI.out; omega⟩, HZ, HS⟩
/-! ### num_there: function 96 -/
def num_there.f (a0 : ByteArray) (a1 : Int) (a2 : Int) : Option (Bool) := if a1 ≥ 0 then (some (decide (a1 ≤ (wrap64 ((a0.size : Int) - a2))))) else (some false)
set_option maxHeartbeats 8000000 in
set_option maxRecDepth 100000 in
theorem num_there.calls (a0 : ByteArray) (a1 : Int) (a2 : Int) (r : Bool) (w : World) (h : num_there.f a0 a1 a2 = some r) :
  Calls Try.prog 96 #[.string a0, .int .i64 a1, .int .i64 a2] w fun e w' => e = .returned (.bool r) ∧ Drawn0 w w' := by
 have H : (if a1 ≥ 0 then (some (decide (a1 ≤ (wrap64 ((a0.size : Int) - a2))))) else (some false)) = some r := h
 clear h
 by_cases c4 : a1 ≥ 0
 ·rw [if_pos c4] at H
  have c4b0 := decide_eq_true c4
  clear c4
  obtain rfl := Option.some.inj H
  go_enter Try.func96, Try.ntmps96
  go_wp2
  go_ret
  exact ⟨by first | rfl | (simp; done) | (simp [*]; done), by repeat (first | exact Drawn0.refl _ | apply Drawn0.step)⟩
 ·rw [if_neg c4] at H
  have c4b0 := decide_eq_false c4
  clear c4
  obtain rfl := Option.some.inj H
  go_enter Try.func96, Try.ntmps96
  go_wp2
  go_ret
  exact ⟨by first | rfl | (simp; done) | (simp [*]; done), by repeat (first | exact Drawn0.refl _ | apply Drawn0.step)⟩
end Go.Proofs.Ytnndanfghlnpfaa.P
