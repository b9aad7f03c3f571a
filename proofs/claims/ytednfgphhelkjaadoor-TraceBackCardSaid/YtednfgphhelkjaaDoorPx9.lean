import Derived.Test.YtednfgphhelkjaaDoorPx0
import Derived.Lib.Builder
import Derived.RangeFuncSeq
import Derived.Test.YtednfgphhelkjaaDoorShelf
import Derived.Test.YtednfgphhelkjaaDoorPx4
namespace Go.Proofs.YtednfgphhelkjaaDoor.P
open Go.RowKit Go.Proofs.YtednfgphhelkjaaDoorW.PrintWords Go.Proofs.YtednfgphhelkjaaDoorW.PrintLast Go.Proofs.YtednfgphhelkjaaDoorW.PrintMore
attribute [local go_sem] max2_int min2_int max_two min_two max_three min_three max_four min_four   -- for this text's walks alone
set_option linter.unusedVariables false
set_option linter.unusedSimpArgs false
/-! ### strings_Builder_copyCheck: function 41 -/
theorem bld_size : ∃ j, Tryd.prog.info? 52 = some j ∧ j.size = 2 := by
 have h : (Tryd.prog.info? 52).map (·.size) = some 2 := by kernel_rfl
 obtain ⟨j, hj, hs⟩ := Option.map_eq_some_iff.1 h
 exact ⟨j, hj, hs⟩
theorem bld_byte : ∃ j, Tryd.prog.info? 5 = some j ∧ j.zero = some (.int .u8 0) ∧ j.size = 1 ∧ j.bytes = 1 := by
 have h : (Tryd.prog.info? 5).map (fun i => (i.zero, i.size, i.bytes)) = some (some (.int .u8 0), 1, 1) := by kernel_rfl
 obtain ⟨j, hj, hs⟩ := Option.map_eq_some_iff.1 h
 simp only [Prod.mk.injEq] at hs
 exact ⟨j, hj, hs.1, hs.2.1, hs.2.2⟩
set_option maxHeartbeats 2000000 in
set_option maxRecDepth 100000 in
theorem bld_check (B b : Nat) (bs : List Value) (w : World) (h : Lib.IsBuilder 52 5 B b bs w) :
  Calls Tryd.prog 41 #[.pointer (some ⟨b, 0, none⟩)] w fun e w' => e = .returned (.tuple #[]) ∧ Lib.BuilderAt 52 5 B b (.pointer (some ⟨b, 0, none⟩)) bs w' ∧ Below B w w' := by
 obtain ⟨j, hj, hs⟩ := bld_size
 rcases h with h | h
 ·have c0 := h.cell0
  have z0 := h.frozen0
  have hto := Lib.run_to_unsafe (P := Tryd.prog) w ⟨b, 0, none⟩ Tryd.underlying49 Tryd.underlying79 hj (by rw [hs]; decide) h.shape (Nat.zero_lt_succ 1)
  have hfrom := Lib.run_from_unsafe (P := Tryd.prog) w ⟨b, 0, none⟩ Tryd.underlying79 Tryd.underlying49 hj h.shape (by kernel_rfl)
  have HB := Aside0.mk h
  clear h
  go_enter Tryd.func41, Tryd.ntmps41
  go_wp2
  rw [run_callFunc_extern Tryd.func51 (by kernel_rfl) (by kernel_rfl) (by kernel_rfl) (e := Extern.AbiNoEscape.same) (by kernel_rfl), Lib.run_noEscape]
  simp only [Result.andThen]
  rw [Oper.upon_value]
  go_wp2
  go_end0
  exact ⟨rfl, HB.out.used _, (Below.refl B w).setCell (p := ⟨b, 0, none⟩) HB.out.1 _⟩
 ·have c0 := h.cell0
  have hne := Lib.run_neq_ptr_same (P := Tryd.prog) w ⟨b, 0, none⟩ Tryd.underlying49 hj
  have HB := Aside0.mk h
  clear h
  go_enter Tryd.func41, Tryd.ntmps41
  go_wp2
  go_end0
  exact ⟨rfl, HB.out, Below.refl B _⟩
theorem bld_cells {B b : Nat} {bs : List Value} {w : World} (h : Lib.BuilderAt 52 5 B b (.pointer (some ⟨b, 0, none⟩)) bs w) :
  ∃ v, w.heap[b]? = some (.cells #[.pointer (some ⟨b, 0, none⟩), v] 52 (0, 0)) ∧ w.ownsRow B 5 1 v bs.length bs ∧ v.ownBlock ≠ some b ∧ B ≤ b := by
 obtain ⟨hB, v, hb, ho, hn⟩ := h
 exact ⟨v, hb, ho, hn, hB⟩
theorem bld_slice {w : World} {B n : Nat} {v : Value} {xs : List Value} (h : w.ownsRow B 5 1 v n xs) : ∃ A m c, v = .slice A m c := by
 rcases h.2 with ⟨hv, _⟩ | ⟨g, cap, cur, hv, _⟩
 ·exact ⟨_, _, _, hv⟩
 ·exact ⟨_, _, _, hv⟩
set_option maxHeartbeats 4000000 in
set_option maxRecDepth 100000 in
theorem bld_text (B b : Nat) (bs : List Value) (s : ByteArray) (w : World) (h : Lib.IsBuilder 52 5 B b bs w) (hl : bs.length + s.size ≤ 140737488355328) (hw : B ≤ w.heap.size) :
  Calls Tryd.prog 25 #[.pointer (some ⟨b, 0, none⟩), .string s] w fun e w' => e = .returned (.tuple #[.int .i64 s.size, .nilIface]) ∧ Lib.BuilderAt 52 5 B b (.pointer (some ⟨b, 0, none⟩)) (bs ++ Lib.strCells s) w' ∧ Below B w w' := by
 obtain ⟨i, hi, hi0, hi1, hi2⟩ := bld_byte
 go_enter Tryd.func25, Tryd.ntmps25
 go_wp2_with (go_at_call 41; refine (bld_check B b bs _ h).mono ?_)
 rintro e w1 ⟨rfl, h1, hb1⟩
 obtain ⟨v, hg, ho, hn, hB⟩ := bld_cells h1
 have q0 := (blk_cell hg 0).trans rfl
 have q1 := (blk_cell hg 1).trans rfl
 have hsz := hb1.size
 go_wp2_with (at_builtin; refine Lib.wpList_append_own_string _ rfl _ _ 50 9 rfl B 5 i Tryd.underlying50 Tryd.underlying9 hi hi0 hi1 hi2 _ _ _ rfl ho s rfl ?cm ?cl ?cb ?_)
 case cm => unfold maxLen; omega
 case cl => omega
 case cb => omega
 intro v2 w2 ho2 hgr _
 have hg2 : w2.heap[b]? = some (.cells #[.pointer (some ⟨b, 0, none⟩), v] 52 (0, 0)) := (hgr.block b (blk_lt hg) (fun e => hn e.symm)).trans hg
 have p1 := (blk_cell hg2 1).trans rfl
 have f1 := blk_frozen hg2 1
 obtain ⟨A2, n2, c2, rfl⟩ := bld_slice ho2
 go_wp2
 go_ret2
 refine ⟨rfl, Lib.BuilderAt.put hB hg2 (bs' := bs ++ Lib.strCells s) (by simpa [Lib.strCells_length] using ho2) (by decide), ?_⟩
 exact (hb1.grown hgr (by omega) (fun k hk => (ho.lt k hk).1)).setCell (p := ⟨b, 1, none⟩) hB _
set_option maxHeartbeats 4000000 in
set_option maxRecDepth 100000 in
theorem bld_one (B b : Nat) (bs : List Value) (c : Int) (w : World) (h : Lib.IsBuilder 52 5 B b bs w) (hl : bs.length + 1 ≤ 140737488355328) (hw : B ≤ w.heap.size) :
  Calls Tryd.prog 26 #[.pointer (some ⟨b, 0, none⟩), .int .u8 c] w fun e w' => e = .returned .nilIface ∧ Lib.BuilderAt 52 5 B b (.pointer (some ⟨b, 0, none⟩)) (bs ++ [.int .u8 c]) w' ∧ Below B w w' := by
 obtain ⟨i, hi, hi0, hi1, hi2⟩ := bld_byte
 go_enter Tryd.func26, Tryd.ntmps26
 go_wp2_with (go_at_call 41; refine (bld_check B b bs _ h).mono ?_)
 rintro e w1 ⟨rfl, h1, hb1⟩
 obtain ⟨v, hg, ho, hn, hB⟩ := bld_cells h1
 have q0 := (blk_cell hg 0).trans rfl
 have q1 := (blk_cell hg 1).trans rfl
 have hsz := hb1.size
 go_wp2_with (at_builtin; refine wpList_append_own _ rfl _ _ 50 rfl B 5 i (.int .u8 0) 1 1 Tryd.underlying50 hi hi0 hi1 hi2 rfl (by decide) _ _ _ rfl (ho.alloc _) ⟨w1.heap.size, 0, none⟩ 1 1 [.int .u8 c] rfl rfl ?ca ?co ?cm ?cl ?cb ?_)
 case ca =>
  intro j u hj
  cases j with
  | zero =>
   obtain rfl := Option.some.inj hj
   exact (blk_cell (heap_alloc_new w1 (.cells #[.int .u8 c] 5)) 0).trans rfl
  | succ j => cases hj
 case co =>
  intro u hu
  rcases List.mem_singleton.1 hu with rfl
  rfl
 case cm => unfold maxLen; omega
 case cl => omega
 case cb => simp; omega
 intro v2 w2 ho2 hgr _
 have hg2 : w2.heap[b]? = some (.cells #[.pointer (some ⟨b, 0, none⟩), v] 52 (0, 0)) := (hgr.block b (by have := blk_lt hg; simp; omega) (fun e => hn e.symm)).trans (blk_alloc hg _)
 have p1 := (blk_cell hg2 1).trans rfl
 have f1 := blk_frozen hg2 1
 obtain ⟨A2, n2, c2, rfl⟩ := bld_slice ho2
 go_wp2
 go_ret
 refine ⟨rfl, Lib.BuilderAt.put hB hg2 (bs' := bs ++ [.int .u8 c]) (by simpa using ho2) (by decide), ?_⟩
 exact ((hb1.alloc (by omega) _).grown hgr (by simp; omega) (fun k hk => (ho.lt k hk).1)).setCell (p := ⟨b, 1, none⟩) hB _
/-! ### trace_Lines: function 12 -/
theorem ln_keep {B b : Nat} {bs : List Value} {w w2 : World} (h : Lib.IsBuilder 52 5 B b bs w) (hb : Below w.heap.size w w2) : Lib.IsBuilder 52 5 B b bs w2 :=
 h.imp (fun ⟨h1, v, h2, h3, h4⟩ => ⟨h1, v, (hb.block _ (blk_lt h2)).trans h2, pw_own_below h3 hb, h4⟩) (fun ⟨h1, v, h2, h3, h4⟩ => ⟨h1, v, (hb.block _ (blk_lt h2)).trans h2, pw_own_below h3 hb, h4⟩)
def lnGo (k : Nat) : List S24 → List UInt8 → Option (List UInt8)
 | [], o => some o
 | c :: l, o => (trace_Call.f k c.f0 c.f1 c.f2 c.f3).bind fun s => if o.length + s.size + 1 ≤ 1099511627776 then lnGo k l (o ++ s.data.toList ++ [10]) else none
theorem lnGo.mono (k : Nat) : ∀ l o, LeO (lnGo k l o) (lnGo (k + 1) l o)
 | [], _ => LeO.refl _
 | _ :: l, _ => LeO.bind (trace_Call.mono _ _ _ _ _) fun _ => LeO.ite (lnGo.mono k l _) (LeO.refl _)
def trace_Lines.f (k : Nat) (l : List S24) : Option ByteArray := if l.length ≤ 1000000 then (lnGo k l []).map fun o => ⟨o.toArray⟩ else none
theorem ln_drop (l : List S24) (i : Nat) (h : i < l.length) : l.drop i = rd_T24 l (i : Int) :: l.drop (i + 1) := by
 rw [List.drop_eq_getElem_cons h]
 simp [rd_T24, List.getD_eq_getElem?_getD, List.getElem?_eq_getElem h]
set_option maxHeartbeats 8000000 in
set_option maxRecDepth 100000 in
theorem trace_Lines.calls (k : Nat) (A0 : Option Addr) (c0 : Nat) (l0 : List S24) (r : ByteArray) (w : World) (hr0 : Kd.C k24 w A0 l0.length l0) (hc0 : l0.length ≤ c0) (h : trace_Lines.f k l0 = some r) :
  Calls Tryd.prog 12 #[.slice A0 l0.length c0] w fun e w' => e = .returned (.string r) ∧ Below w.heap.size w w' := by
 have huC := Tryd.underlying24
 unfold trace_Lines.f at h
 split at h
 rotate_left
 ·cases h
 rename_i hm
 obtain ⟨o1, h1, rfl⟩ := Option.map_eq_some_iff.mp h
 obtain ⟨n, hn⟩ : ∃ n, l0.length = n := ⟨_, rfl⟩
 rw [hn] at hr0 hm ⊢
 have HN := Aside0.mk hn
 have HC := Aside0.mk hr0
 have HQ := Aside0.mk h1
 have HM := Aside0.mk hm
 have HB0 := Aside0.mk (Lib.fresh_isBuilder 52 5 w)
 have KB0 := Aside0.mk (below_alloc (Below.refl w.heap.size w) (.cells #[.pointer none, .slice none 0 0] 52))
 clear h h1 hr0 hc0 hn hm
 go_enter Tryd.func12, Tryd.ntmps12
 go_wp2
 go_loopg [8] n (fun kq v8 wx => ∃ (i : Nat) (oq : List UInt8), v8 = .int .i64 (i : Int) ∧ Aside0 (i + kq = n) ∧ Aside0 (lnGo k (l0.drop i) oq = some o1) ∧ Aside0 (Lib.IsBuilder 52 5 w.heap.size w.heap.size (Lib.byteCells oq) wx) ∧ Aside0 (Below w.heap.size w wx))
 case atStart => exact ⟨0, [], rfl, ⟨Nat.zero_add _⟩, HQ, HB0, KB0⟩
 case round =>
  clear HQ HB0 KB0
  obtain ⟨i, oq, rfl, HI, HQ, HB, KB⟩ := hrel
  cases gk with
  | zero =>
   obtain rfl : i = n := by have := HI.out; omega
   have c0 : decide ((i : Int) < (i : Int)) = false := decide_eq_false (by omega)
   have hq := HQ.out
   rw [← HN.out, List.drop_length] at hq
   obtain rfl := Option.some.inj hq
   clear hq HQ
   go_wp2_with (go_at_call 27; refine (Tryd.Builder_String_any w.heap.size w.heap.size oq _ HB.out KB.out.size).mono ?_; rintro e w7 ⟨rfl, hb⟩; have KE := Aside0.mk (KB.out.trans hb); clear hb)
   go_ret
   exact ⟨rfl, KE.out⟩
  | succ k1 =>
   have hi : i < n := by have := HI.out; omega
   have c0 : decide ((i : Int) < (n : Int)) = true := decide_eq_true (by omega)
   have hq := HQ.out
   rw [ln_drop l0 i (by rw [HN.out]; exact hi)] at hq
   have p0 : (0 : Int) ≤ (i : Int) := by omega
   have q0 : (i : Int) < (n : Int) := by omega
   obtain ⟨ad, e0, hx0, hx1, hx2, hx3⟩ := at_T24 (Kd.C_below HC.out KB.out) (i : Int) p0 q0
   cases e0
   simp only [Int.toNat_natCast] at hx0 hx1 hx2 hx3
   obtain ⟨⟨f0, f1, f2, f3⟩, hs⟩ : ∃ s, rd_T24 l0 (i : Int) = s := ⟨_, rfl⟩
   rw [hs] at hx0 hx1 hx2 hx3 hq
   dsimp only at hx0 hx1 hx2 hx3
   clear hs
   rw [lnGo] at hq
   obtain ⟨s, hcs, hq⟩ := Option.bind_eq_some_iff.mp hq
   split at hq
   rotate_left
   ·cases hq
   rename_i hl
   have HCS := Aside0.mk hcs
   have HL := Aside0.mk hl
   have HZ := Aside0.mk hq
   clear hcs hl hq HQ
   have p0 := eq_true p0
   have q0 := eq_true q0
   go_upto_region 5 with fail
   have KT := Aside0.mk (heap_alloc_new wr (.cells #[.int .i64 f0, .int .i64 f1, .int .i64 f2, .string f3] 24))
   have HBa := Aside0.mk (ln_keep HB.out (below_alloc (Below.refl wr.heap.size wr) (.cells #[.int .i64 f0, .int .i64 f1, .int .i64 f2, .string f3] 24)))
   have KBa := Aside0.mk (below_alloc KB.out (.cells #[.int .i64 f0, .int .i64 f1, .int .i64 f2, .string f3] 24))
   obtain ⟨Wc, hWc⟩ : ∃ Z : World, wr.alloc (.cells #[.int .i64 f0, .int .i64 f1, .int .i64 f2, .string f3] 24) = Z := ⟨_, rfl⟩
   rw [hWc] at KT HBa KBa ⊢
   obtain ⟨gt, hgt⟩ : ∃ g, wr.heap.size = g := ⟨_, rfl⟩
   rw [hgt] at KT ⊢
   clear hWc hgt hx0 hx1 hx2 hx3
   have t0 := (blk_cell KT.out 0).trans rfl
   have t1 := (blk_cell KT.out 1).trans rfl
   have t2 := (blk_cell KT.out 2).trans rfl
   have t3 := (blk_cell KT.out 3).trans rfl
   have ws : wrap64 ((i : Int) + 1) = ((i + 1 : Nat) : Int) := by
    have := HI.out
    have := HM.out
    unfold wrap64
    omega
   go_wp2_with (first
    | (go_at_call 13; (with_reducible refine (trace_Call.calls k f0 f1 f2 f3 s _ HCS.out).mono ?_); rintro e w3 ⟨rfl, hb⟩; have HBb := Aside0.mk (ln_keep HBa.out hb); have KBb := Aside0.mk (below_step KBa.out hb); clear hb)
    | (go_at_call 25; refine (bld_text w.heap.size w.heap.size (Lib.byteCells oq) s _ HBb.out (by have := HL.out; rw [Lib.byteCells_length]; omega) KBb.out.size).mono ?_; rintro e w4 ⟨rfl, hi, hb⟩; have HI3 := Aside0.mk hi; have KB3 := Aside0.mk (KBb.out.trans hb); clear hi hb)
    | (go_at_call 26; refine (bld_one w.heap.size w.heap.size _ 10 _ (Or.inr HI3.out) (by have := HL.out; rw [List.length_append, Lib.byteCells_length, Lib.strCells_length]; omega) KB3.out.size).mono ?_; rintro e w5 ⟨rfl, hi, hb⟩; have HI5 := Aside0.mk hi; have KB5 := Aside0.mk (KB3.out.trans hb); clear hi hb))
   go_roundg k1
   case measure => omega
   case rel => exact ⟨i + 1, _, by first | rfl | rw [ws], ⟨by have := HI.out; omega⟩, HZ, ⟨by rw [Lib.byteCells_append, Lib.byteCells_append]; exact Or.inr HI5.out⟩, KB5⟩
end Go.Proofs.YtednfgphhelkjaaDoor.P
