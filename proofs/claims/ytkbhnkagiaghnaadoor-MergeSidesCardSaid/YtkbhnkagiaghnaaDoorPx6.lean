import Derived.Test.YtkbhnkagiaghnaaDoorPx0
import Derived.Test.YtkbhnkagiaghnaaDoorPx4
import Derived.Test.YtkbhnkagiaghnaaDoorPx5
namespace Go.Proofs.YtkbhnkagiaghnaaDoor.P
open Go.RowKit Go.Proofs.YtkbhnkagiaghnaaDoorW.PrintWords Go.Proofs.YtkbhnkagiaghnaaDoorW.PrintLast Go.Proofs.YtkbhnkagiaghnaaDoorW.PrintMore
attribute [local go_sem] max2_int min2_int max_two min_two max_three min_three max_four min_four   -- for this text's walks alone
set_option linter.unusedVariables false
set_option linter.unusedSimpArgs false
/-! ### merge_ended: function 30 -/
theorem en_keep {B b : Nat} {bs : List Value} {w w2 : World} (h : Lib.IsBuilder 48 5 B b bs w) (hb : Below w.heap.size w w2) : Lib.IsBuilder 48 5 B b bs w2 :=
 h.imp (fun ⟨h1, v, h2, h3, h4⟩ => ⟨h1, v, (hb.block _ (blk_lt h2)).trans h2, pw_own_below h3 hb, h4⟩) (fun ⟨h1, v, h2, h3, h4⟩ => ⟨h1, v, (hb.block _ (blk_lt h2)).trans h2, pw_own_below h3 hb, h4⟩)
def enGo : List ByteArray → List UInt8 → Option (List UInt8)
 | [], o => some o
 | s :: l, o => (strings_HasSuffix.f s (⟨#[10]⟩ : ByteArray)).bind fun b => if o.length + s.size + 1 ≤ 1099511627776 then enGo l (o ++ s.data.toList ++ (if b = true then [] else [10])) else none
def merge_ended.f (l : List ByteArray) : Option ByteArray := if l.length ≤ 1000000 then (enGo l []).map fun o => ⟨o.toArray⟩ else none
theorem en_drop (l : List ByteArray) (i : Nat) (h : i < l.length) : l.drop i = rdOf ByteArray.empty l (i : Int) :: l.drop (i + 1) := by
 rw [List.drop_eq_getElem_cons h]
 simp [rdOf, List.getD_eq_getElem?_getD, List.getElem?_eq_getElem h]
set_option maxHeartbeats 8000000 in
set_option maxRecDepth 100000 in
theorem merge_ended.calls (A0 : Option Addr) (c0 : Nat) (l0 : List ByteArray) (r : ByteArray) (w : World) (hr0 : Kd.C Kd.string w A0 l0.length l0) (hc0 : l0.length ≤ c0) (h : merge_ended.f l0 = some r) :
  Calls Tryd.prog 30 #[.slice A0 l0.length c0] w fun e w' => e = .returned (.string r) ∧ Below w.heap.size w w' := by
 unfold merge_ended.f at h
 split at h
 rotate_left
 ·cases h
 rename_i hm
 obtain ⟨o1, h1, rfl⟩ := Option.map_eq_some_iff.mp h
 obtain ⟨n, hn⟩ : ∃ n, l0.length = n := ⟨_, rfl⟩
 rw [hn] at hr0 hm ⊢
 have HN := Aside0.mk hn
 have HC := Aside0.mk hr0
 have HQ := Aside0.mk h1
 have HM := Aside0.mk hm
 have HB0 := Aside0.mk (Lib.fresh_isBuilder 48 5 w)
 have KB0 := Aside0.mk (below_alloc (Below.refl w.heap.size w) (.cells #[.pointer none, .slice none 0 0] 48))
 clear h h1 hr0 hc0 hn hm
 go_enter Tryd.func30, Tryd.ntmps30
 go_wp2
 go_loopg [8] n (fun kq v8 wx => ∃ (i : Nat) (oq : List UInt8), v8 = .int .i64 (i : Int) ∧ Aside0 (i + kq = n) ∧ Aside0 (enGo (l0.drop i) oq = some o1) ∧ Aside0 (Lib.IsBuilder 48 5 w.heap.size w.heap.size (Lib.byteCells oq) wx) ∧ Aside0 (Below w.heap.size w wx))
 case atStart => exact ⟨0, [], rfl, ⟨Nat.zero_add _⟩, HQ, HB0, KB0⟩
 case round =>
  clear HQ HB0 KB0
  obtain ⟨i, oq, rfl, HI, HQ, HB, KB⟩ := hrel
  cases gk with
  | zero =>
   obtain rfl : i = n := by have := HI.out; omega
   have c0 : decide ((i : Int) < (i : Int)) = false := decide_eq_false (by omega)
   have hq := HQ.out
   rw [← HN.out, List.drop_length] at hq
   obtain rfl := Option.some.inj hq
   clear hq HQ
   go_wp2_with (go_at_call 21; refine (Tryd.Builder_String_any w.heap.size w.heap.size oq _ HB.out KB.out.size).mono ?_; rintro e w7 ⟨rfl, hb⟩; have KE := Aside0.mk (KB.out.trans hb); clear hb)
   go_ret
   exact ⟨rfl, KE.out⟩
  | succ k1 =>
   have hi : i < n := by have := HI.out; omega
   have c0 : decide ((i : Int) < (n : Int)) = true := decide_eq_true (by omega)
   have hq := HQ.out
   rw [en_drop l0 i (by rw [HN.out]; exact hi)] at hq
   have p0 : (0 : Int) ≤ (i : Int) := by omega
   have q0 : (i : Int) < (n : Int) := by omega
   obtain ⟨ad, e0, hx⟩ := Kd.at_string (Kd.C_below HC.out KB.out) (i : Int) p0 q0
   cases e0
   simp only [Int.toNat_natCast] at hx
   obtain ⟨s, hs⟩ : ∃ s, rdOf ByteArray.empty l0 (i : Int) = s := ⟨_, rfl⟩
   rw [hs] at hx hq
   clear hs
   rw [enGo] at hq
   obtain ⟨b, hb, hq⟩ := Option.bind_eq_some_iff.mp hq
   by_cases hl : oq.length + s.size + 1 ≤ 1099511627776
   rotate_left
   ·rw [if_neg hl] at hq
    cases hq
   rw [if_pos hl] at hq
   have HS := Aside0.mk hb
   have HL := Aside0.mk hl
   have HZ := Aside0.mk hq
   clear hb hl hq HQ
   have ws : wrap64 ((i : Int) + 1) = ((i + 1 : Nat) : Int) := by
    have := HI.out
    have := HM.out
    unfold wrap64
    omega
   have p0 := eq_true p0
   have q0 := eq_true q0
   cases b with
   | true =>
    go_wp2_with (first
     | (go_at_call 20; refine (bld_text w.heap.size w.heap.size (Lib.byteCells oq) s _ HB.out (by have := HL.out; rw [Lib.byteCells_length]; omega) KB.out.size).mono ?_; rintro e w3 ⟨rfl, hi, hb⟩; have HI3 := Aside0.mk hi; have KB3 := Aside0.mk (KB.out.trans hb); clear hi hb)
     | (go_at_call 38; (with_reducible refine (strings_HasSuffix.calls s _ true _ HS.out).mono ?_); rintro e w4 ⟨rfl, hd⟩; obtain ⟨nq, rfl⟩ := hd))
    go_roundg k1
    case measure => omega
    case rel => exact ⟨i + 1, _, by rw [ws], ⟨by have := HI.out; omega⟩, HZ, ⟨by simp only [if_true, List.append_nil]; rw [Lib.byteCells_append]; exact en_keep (Or.inr HI3.out) (by first | exact Below.refl _ _ | exact pw_below_drewN (Below.refl _ _) _)⟩, ⟨by first | exact KB3.out | exact pw_below_drewN KB3.out _⟩⟩
   | false =>
    go_wp2_with (first
     | (go_at_call 20; refine (bld_text w.heap.size w.heap.size (Lib.byteCells oq) s _ HB.out (by have := HL.out; rw [Lib.byteCells_length]; omega) KB.out.size).mono ?_; rintro e w3 ⟨rfl, hi, hb⟩; have HI3 := Aside0.mk hi; have KB3 := Aside0.mk (KB.out.trans hb); clear hi hb)
     | (go_at_call 38; (with_reducible refine (strings_HasSuffix.calls s _ false _ HS.out).mono ?_); rintro e w4 ⟨rfl, hd⟩; obtain ⟨nq, rfl⟩ := hd)
     | (go_at_call 39; refine (bld_one w.heap.size w.heap.size _ 10 _ (en_keep (Or.inr HI3.out) (by first | exact Below.refl _ _ | exact pw_below_drewN (Below.refl _ _) _)) (by have := HL.out; rw [List.length_append, Lib.byteCells_length, Lib.strCells_length]; omega) (by have := KB3.out.size; first | exact this | simpa using this)).mono ?_; rintro e w5 ⟨rfl, hi, hb⟩; have HI5 := Aside0.mk hi; have KB5 := Aside0.mk (Below.trans (by first | exact KB3.out | exact pw_below_drewN KB3.out _) hb); clear hi hb))
    go_roundg k1
    case measure => omega
    case rel => exact ⟨i + 1, _, by rw [ws], ⟨by have := HI.out; omega⟩, HZ, ⟨by simp only [if_false, Bool.false_eq_true]; rw [Lib.byteCells_append, Lib.byteCells_append]; exact Or.inr HI5.out⟩, KB5⟩
/-! ### merge_judge: function 19 -/
def merge_judge.j0 : Nat → Bool → List ByteArray → List ByteArray → List ByteArray → Bool → Option (ByteArray × Bool)
 | 0, _, _, _, _, _ => none
 | k + 1, x3, x122000, x122001, x122002, x122003 => if x3 = true then ((strings_Join.f x122001 (⟨#[]⟩ : ByteArray)).bind fun t124 => (some (t124, false))) else ((slices_Equal__string_string.f k x122002 x122000).bind fun t125 => (if t125 = true then ((strings_Join.f x122001 (⟨#[]⟩ : ByteArray)).bind fun t126 => (some (t126, false))) else ((slices_Equal__string_string.f k x122001 x122000).bind fun t127 => (if t127 = true then ((strings_Join.f x122002 (⟨#[]⟩ : ByteArray)).bind fun t128 => (some (t128, false))) else ((merge_ended.f x122001).bind fun t129 => (if 8 + t129.size ≤ 9223372036854775807 then (if ((⟨#[60, 60, 60, 60, 60, 60, 60, 10]⟩ : ByteArray) ++ t129).size + 8 ≤ 9223372036854775807 then ((merge_ended.f x122002).bind fun t130 => (if (((⟨#[60, 60, 60, 60, 60, 60, 60, 10]⟩ : ByteArray) ++ t129) ++ (⟨#[61, 61, 61, 61, 61, 61, 61, 10]⟩ : ByteArray)).size + t130.size ≤ 9223372036854775807 then (if ((((⟨#[60, 60, 60, 60, 60, 60, 60, 10]⟩ : ByteArray) ++ t129) ++ (⟨#[61, 61, 61, 61, 61, 61, 61, 10]⟩ : ByteArray)) ++ t130).size + 8 ≤ 9223372036854775807 then (some (((((⟨#[60, 60, 60, 60, 60, 60, 60, 10]⟩ : ByteArray) ++ t129) ++ (⟨#[61, 61, 61, 61, 61, 61, 61, 10]⟩ : ByteArray)) ++ t130) ++ (⟨#[62, 62, 62, 62, 62, 62, 62, 10]⟩ : ByteArray), true)) else (none)) else (none))) else (none)) else (none)))))))
def merge_judge.f (k : Nat) (l0_0 : List ByteArray) (l0_1 : List ByteArray) (l0_2 : List ByteArray) (a0_3 : Bool) : Option (ByteArray × Bool) := if a0_3 = true then (merge_judge.j0 k true l0_0 l0_1 l0_2 a0_3) else ((slices_Equal__string_string.f k l0_1 l0_2).bind fun t123 => (merge_judge.j0 k t123 l0_0 l0_1 l0_2 a0_3))
theorem merge_judge.mono_l : ∀ k, (∀ y0 y1 y2 y3 y4, LeO (merge_judge.j0 k y0 y1 y2 y3 y4) (merge_judge.j0 (k + 1) y0 y1 y2 y3 y4))
 | 0 => fun _ _ _ _ _ r h => by simp [merge_judge.j0] at h
 | k + 1 => by
  have ih0 := merge_judge.mono_l k
  ·intro y0 y1 y2 y3 y4
   unfold merge_judge.j0
   repeat' first
   | (with_reducible exact ih0 _ _ _ _ _)
   | (with_reducible exact slices_Equal__string_string.mono _ _ _)
   | (with_reducible exact LeO.refl _)
   | (with_reducible exact LeO.none _)
   | (with_reducible refine LeO.ite ?_ ?_)
   | (with_reducible refine LeO.bind ?_ (fun _ => ?_))
   | exact ih0 _ _ _ _ _
   | exact slices_Equal__string_string.mono _ _ _
   | exact LeO.none _
   | refine LeO.ite ?_ ?_
   | refine LeO.bind ?_ (fun _ => ?_)
theorem merge_judge.mono : ∀ a0 a1 a2 a3 k, LeO (merge_judge.f k a0 a1 a2 a3) (merge_judge.f (k + 1) a0 a1 a2 a3) := by
 intro a0 a1 a2 a3 k
 have ih0 := merge_judge.mono_l k
 unfold merge_judge.f
 repeat' first
   | (with_reducible exact ih0 _ _ _ _ _)
   | (with_reducible exact slices_Equal__string_string.mono _ _ _)
   | (with_reducible exact LeO.refl _)
   | (with_reducible exact LeO.none _)
   | (with_reducible refine LeO.ite ?_ ?_)
   | (with_reducible refine LeO.bind ?_ (fun _ => ?_))
   | exact ih0 _ _ _ _ _
   | exact slices_Equal__string_string.mono _ _ _
   | exact LeO.none _
   | refine LeO.ite ?_ ?_
   | refine LeO.bind ?_ (fun _ => ?_)
def merge_judge.T7 : Bool × List (List Nat × List Nat) := (true, [([], []), ([0], [0]), ([1], [1]), ([2], [2]), ([3], [3]), ([], []), ([5], [5]), ([6, 2], [6]), ([4, 7], [4, 7]), ([8], [8]), ([9], [9]), ([10, 7, 0, 1, 2, 3, 4, 5, 6, 7, 8, 9, 10], [10])])
def merge_judge.B7 : List Nat := [0, 1, 3, 7, 15, 0, 32, 103, 255, 511, 1023, 2047]
theorem merge_judge.tab7 : rtab .any (opsOf Tryd.f19 7) = merge_judge.T7 := by kernel_rfl
theorem merge_judge.bits7 : waitsOk merge_judge.T7.2 merge_judge.B7 = true := by kernel_rfl
set_option maxHeartbeats 8000000 in
set_option maxRecDepth 100000 in
theorem merge_judge.calls (k : Nat) (A0_0 : Option Addr) (c0_0 : Nat) (l0_0 : List ByteArray) (A0_1 : Option Addr) (c0_1 : Nat) (l0_1 : List ByteArray) (A0_2 : Option Addr) (c0_2 : Nat) (l0_2 : List ByteArray) (a0_3 : Bool) (r1 : ByteArray) (r2 : Bool) (w : World) (hr0_0 : Kd.C Kd.string w A0_0 l0_0.length l0_0) (hc0_0 : l0_0.length ≤ c0_0) (hr0_1 : Kd.C Kd.string w A0_1 l0_1.length l0_1) (hc0_1 : l0_1.length ≤ c0_1) (hr0_2 : Kd.C Kd.string w A0_2 l0_2.length l0_2) (hc0_2 : l0_2.length ≤ c0_2) (h : merge_judge.f k l0_0 l0_1 l0_2 a0_3 = some (r1, r2)) :
  Calls Tryd.prog 19 #[.agg #[.slice A0_0 l0_0.length c0_0, .slice A0_1 l0_1.length c0_1, .slice A0_2 l0_2.length c0_2, .bool a0_3]] w fun e w' => e = .returned (.agg #[.string r1, .bool r2]) ∧ Below w.heap.size w w' := by
 have hu30 := Tryd.underlying30
 have hu51 := Tryd.underlying51
 have HR0_0 := Aside0.mk hr0_0
 have HC0_0 := Aside0.mk hc0_0
 clear hr0_0 hc0_0
 have HR0_1 := Aside0.mk hr0_1
 have HC0_1 := Aside0.mk hc0_1
 clear hr0_1 hc0_1
 have HR0_2 := Aside0.mk hr0_2
 have HC0_2 := Aside0.mk hc0_2
 clear hr0_2 hc0_2
 have HB := Aside0.mk (Below.refl w.heap.size w)
 have H : (if a0_3 = true then (merge_judge.j0 k true l0_0 l0_1 l0_2 a0_3) else ((slices_Equal__string_string.f k l0_1 l0_2).bind fun t123 => (merge_judge.j0 k t123 l0_0 l0_1 l0_2 a0_3))) = some (r1, r2) := h
 clear h
 have HC2 := Aside0.mk H
 clear H
 go_enter Tryd.func19, Tryd.ntmps19
 go_upto_region 1 with (first | ((with_reducible refine gate_dst (N := 1) rfl ?_); refine box_event ?hg (N := 1) ?hd (cs := #[.slice A0_0 l0_0.length c0_0, .slice A0_1 l0_1.length c0_1, .slice A0_2 l0_2.length c0_2, .bool a0_3]) (t := 30) ?hr ?_; (case hd => rfl); (case hg => rfl); (case hr => first | (go_simp; done) | (go_simp; rfl)); intro gb121 hg w3 hbox hb; have n0_ := Aside0.mk (below_step (by repeat (first | (with_reducible first | exact HB.out | apply below_alloc | apply pw_below_drewN | apply below_drew1) | exact HB.out)) hb); have n1_ := Aside0.mk (hbox); have n2_ := Aside0.mk ((by rw [hg]; exact (below_size (by repeat (first | (with_reducible first | exact HB.out | apply below_alloc | apply pw_below_drewN | apply below_drew1) | exact HB.out))) : w.heap.size ≤ gb121)); have n3_ := Aside0.mk ((by rw [hg]; exact (below_size (by repeat (first | (with_reducible first | exact HB.out | apply below_alloc | apply pw_below_drewN | apply below_drew1) | exact HB.out))) : w.heap.size ≤ gb121)); clear HB; have HB := n0_; have BK121 := n1_; have GW121 := n2_; have GE121 := n3_; clear n0_ n1_ n2_ n3_; clear hb hbox hg) | ((with_reducible refine gate_dst (N := 2) rfl ?_); refine box_event ?hg (N := 2) ?hd (cs := #[.string (⟨#[]⟩ : ByteArray), .bool false]) (t := 51) ?hr ?_; (case hd => rfl); (case hg => rfl); (case hr => first | (go_simp; done) | (go_simp; rfl)); intro gb122 hg w4 hbox hb; have n0_ := Aside0.mk (blk_below (g := gb121) (o := .cells #[.slice A0_0 l0_0.length c0_0, .slice A0_1 l0_1.length c0_1, .slice A0_2 l0_2.length c0_2, .bool a0_3] 30 (0, 0)) (by (with_reducible repeat (first | refine blk_drewN ?_ _ | refine blk_drew ?_ | refine blk_alloc ?_ _)); exact BK121.out) hb); have n1_ := Aside0.mk (below_step (by repeat (first | (with_reducible first | exact HB.out | apply below_alloc | apply pw_below_drewN | apply below_drew1 | refine below_set ?_ GE121.out) | exact HB.out)) hb); have n2_ := Aside0.mk (hbox); have n3_ := Aside0.mk ((by rw [hg]; exact (below_size (by repeat (first | (with_reducible first | exact HB.out | apply below_alloc | apply pw_below_drewN | apply below_drew1 | refine below_set ?_ GE121.out) | exact HB.out))) : w.heap.size ≤ gb122)); have n4_ := Aside0.mk ((by rw [hg]; exact (below_size (by repeat (first | (with_reducible first | exact HB.out | apply below_alloc | apply pw_below_drewN | apply below_drew1 | refine below_set ?_ GE121.out) | exact HB.out))) : w.heap.size ≤ gb122)); have n5_ := Aside0.mk ((by rw [hg]; exact Nat.ne_of_lt (blk_lt (g := gb121) (o := .cells #[.slice A0_0 l0_0.length c0_0, .slice A0_1 l0_1.length c0_1, .slice A0_2 l0_2.length c0_2, .bool a0_3] 30 (0, 0)) (by (with_reducible repeat (first | refine blk_drewN ?_ _ | refine blk_drew ?_ | refine blk_alloc ?_ _)); exact BK121.out)) : gb121 ≠ gb122)); have n6_ := Aside0.mk ((by rw [hg]; exact Nat.ne_of_gt (blk_lt (g := gb121) (o := .cells #[.slice A0_0 l0_0.length c0_0, .slice A0_1 l0_1.length c0_1, .slice A0_2 l0_2.length c0_2, .bool a0_3] 30 (0, 0)) (by (with_reducible repeat (first | refine blk_drewN ?_ _ | refine blk_drew ?_ | refine blk_alloc ?_ _)); exact BK121.out)) : gb122 ≠ gb121)); clear BK121; clear HB; have BK121 := n0_; have HB := n1_; have BK122 := n2_; have GW122 := n3_; have GE122 := n4_; have NB121_122 := n5_; have NB122_121 := n6_; clear n0_ n1_ n2_ n3_ n4_ n5_ n6_; clear hb hbox hg))
 (try simp only [Act.put, List.setIfInBounds_toArray, List.set_cons_zero, List.set_cons_succ])
 go_cut [3] (fun v3 wc => ∃ (kq : Nat) (x3_1 : Bool), v3 = .bool x3_1 ∧ Aside0 (merge_judge.j0 kq x3_1 l0_0 l0_1 l0_2 a0_3 = some (r1, r2)) ∧ Aside0 (kq ≤ k) ∧ Aside0 (wc.heap[gb121]? = some (.cells #[(.slice A0_0 l0_0.length c0_0), (.slice A0_1 l0_1.length c0_1), (.slice A0_2 l0_2.length c0_2), .bool a0_3] 30 (0, 0))) ∧ Aside0 (wc.heap[gb122]? = some (.cells #[.string (⟨#[]⟩ : ByteArray), .bool false] 51 (0, 0))) ∧ Aside0 (Below w.heap.size w wc))
 case first =>
  have H := HC2.out
  clear HC2
  by_cases c5 : a0_3 = true
  ·subst c5
   have H1 : (merge_judge.j0 k true l0_0 l0_1 l0_2 true) = some (r1, r2) := by rw [if_pos rfl] at H; exact H
   clear H
   have H := H1
   clear H1
   have H' := Aside0.mk H
   clear H
   have hnb6 := NB121_122.out
   have hnc6 := NB122_121.out
   have hcz7_0 : w4.cell? ⟨gb121, 0, none⟩ = some (.slice A0_0 l0_0.length c0_0) := (blk_cell BK121.out 0).trans rfl
   have hcz7_1 : w4.cell? ⟨gb121, 1, none⟩ = some (.slice A0_1 l0_1.length c0_1) := (blk_cell BK121.out 1).trans rfl
   have hcz7_2 : w4.cell? ⟨gb121, 2, none⟩ = some (.slice A0_2 l0_2.length c0_2) := (blk_cell BK121.out 2).trans rfl
   have hcz7_3 : w4.cell? ⟨gb121, 3, none⟩ = some (.bool true) := (blk_cell BK121.out 3).trans rfl
   have hfz7_0 := blk_frozen BK121.out 0
   have hfz7_1 := blk_frozen BK121.out 1
   have hfz7_2 := blk_frozen BK121.out 2
   have hfz7_3 := blk_frozen BK121.out 3
   go_wp2
   go_meet
   case rel => exact ⟨_, (true), (by first | rfl | (simp; done) | (simp [*]; done)), H', ⟨by first | omega | exact Nat.le_refl _⟩, ⟨by (with_reducible repeat (first | refine blk_drewN ?_ _ | refine blk_drew ?_ | refine blk_alloc ?_ _)); exact BK121.out⟩, ⟨by (with_reducible repeat (first | refine blk_drewN ?_ _ | refine blk_drew ?_ | refine blk_alloc ?_ _)); exact BK122.out⟩, ⟨by repeat (first | (with_reducible first | exact HB.out | apply below_alloc | apply pw_below_drewN | apply below_drew1 | refine below_set ?_ GE121.out | refine below_set ?_ GE122.out) | exact HB.out)⟩⟩
  ·replace c5 := Bool.eq_false_iff.mpr c5
   subst c5
   have H1 : ((slices_Equal__string_string.f k l0_1 l0_2).bind fun t123 => (merge_judge.j0 k t123 l0_0 l0_1 l0_2 false)) = some (r1, r2) := by rw [if_neg (show ¬ (false = true) by decide)] at H; exact H
   clear H
   have H := H1
   clear H1
   replace H := Option.bind_eq_some_iff.mp H
   obtain ⟨t123, A80, H⟩ := H
   replace H : (merge_judge.j0 k t123 l0_0 l0_1 l0_2 false) = some (r1, r2) := H
   have A8 := Aside0.mk A80
   clear A80
   have H' := Aside0.mk H
   clear H
   have hnb9 := NB121_122.out
   have hnc9 := NB122_121.out
   have hcz10_0 : w4.cell? ⟨gb121, 0, none⟩ = some (.slice A0_0 l0_0.length c0_0) := (blk_cell BK121.out 0).trans rfl
   have hcz10_1 : w4.cell? ⟨gb121, 1, none⟩ = some (.slice A0_1 l0_1.length c0_1) := (blk_cell BK121.out 1).trans rfl
   have hcz10_2 : w4.cell? ⟨gb121, 2, none⟩ = some (.slice A0_2 l0_2.length c0_2) := (blk_cell BK121.out 2).trans rfl
   have hcz10_3 : w4.cell? ⟨gb121, 3, none⟩ = some (.bool false) := (blk_cell BK121.out 3).trans rfl
   have hfz10_0 := blk_frozen BK121.out 0
   have hfz10_1 := blk_frozen BK121.out 1
   have hfz10_2 := blk_frozen BK121.out 2
   have hfz10_3 := blk_frozen BK121.out 3
   go_wp2_with (first | (go_at_call 28; (with_reducible refine (slices_Equal__string_string.calls k _ _ l0_1 _ _ l0_2 t123 _ ?side1 ?side2 ?side3 ?side4 A8.out).mono ?_); (case side1 => repeat (first | exact (Kd.C_below HR0_1.out HB.out) | (with_reducible refine Kd.C_alloc ?_ _) | (with_reducible refine Kd.C_drewN ?_ _) | (with_reducible refine Kd.C_drew ?_))); (case side2 => exact HC0_1.out); (case side3 => repeat (first | exact (Kd.C_below HR0_2.out HB.out) | (with_reducible refine Kd.C_alloc ?_ _) | (with_reducible refine Kd.C_drewN ?_ _) | (with_reducible refine Kd.C_drew ?_))); (case side4 => exact HC0_2.out); rintro e w' ⟨rfl, ⟨nd, rfl⟩⟩))
   go_meet
   case rel => exact ⟨_, (t123), (by first | rfl | (simp; done) | (simp [*]; done)), H', ⟨by first | omega | exact Nat.le_refl _⟩, ⟨by (with_reducible repeat (first | refine blk_drewN ?_ _ | refine blk_drew ?_ | refine blk_alloc ?_ _)); exact BK121.out⟩, ⟨by (with_reducible repeat (first | refine blk_drewN ?_ _ | refine blk_drew ?_ | refine blk_alloc ?_ _)); exact BK122.out⟩, ⟨by repeat (first | (with_reducible first | exact HB.out | apply below_alloc | apply pw_below_drewN | apply below_drew1 | refine below_set ?_ GE121.out | refine below_set ?_ GE122.out) | exact HB.out)⟩⟩
 case rest =>
  clear HC2
  try clear c1
  try clear p2
  try clear c5
  try clear c6
  try clear c9
  try clear hcz10_0
  try clear hcz10_1
  try clear hcz10_2
  try clear hcz10_3
  try clear hcz7_0
  try clear hcz7_1
  try clear hcz7_2
  try clear hcz7_3
  try clear hfz10_0
  try clear hfz10_1
  try clear hfz10_2
  try clear hfz10_3
  try clear hfz7_0
  try clear hfz7_1
  try clear hfz7_2
  try clear hfz7_3
  obtain ⟨kq, x3_1, rfl, HA, HJ1, BK121, BK122, HB⟩ := hcut
  cases kq with
  | zero => exact absurd HA.out (by simp [merge_judge.j0])
  | succ kj1 =>
   have H := HA.out
   clear HA
   simp only [merge_judge.j0] at H
   by_cases c11 : x3_1 = true
   ·subst c11
    have H1 : ((strings_Join.f l0_1 (⟨#[]⟩ : ByteArray)).bind fun t124 => (some (t124, false))) = some (r1, r2) := by rw [if_pos rfl] at H; exact H
    clear H
    have H := H1
    clear H1
    replace H := Option.bind_eq_some_iff.mp H
    obtain ⟨t124, A120, H⟩ := H
    replace H : (some (t124, false)) = some (r1, r2) := H
    have A12 := Aside0.mk A120
    clear A120
    simp only [Option.some.injEq, Prod.mk.injEq] at H
    obtain ⟨rfl, rfl⟩ := H
    have hnb13 := NB121_122.out
    have hnc13 := NB122_121.out
    have hcz14_0 : wc.cell? ⟨gb121, 0, none⟩ = some (.slice A0_0 l0_0.length c0_0) := (blk_cell BK121.out 0).trans rfl
    have hcz14_1 : wc.cell? ⟨gb121, 1, none⟩ = some (.slice A0_1 l0_1.length c0_1) := (blk_cell BK121.out 1).trans rfl
    have hcz14_2 : wc.cell? ⟨gb121, 2, none⟩ = some (.slice A0_2 l0_2.length c0_2) := (blk_cell BK121.out 2).trans rfl
    have hcz14_3 : wc.cell? ⟨gb121, 3, none⟩ = some (.bool a0_3) := (blk_cell BK121.out 3).trans rfl
    have hfz14_0 := blk_frozen BK121.out 0
    have hfz14_1 := blk_frozen BK121.out 1
    have hfz14_2 := blk_frozen BK121.out 2
    have hfz14_3 := blk_frozen BK121.out 3
    go_wp2_with (first | ((with_reducible refine gate_callee (f := 29) rfl ?_); refine goesL_ (some 15) rfl rfl Tryd.func29 (by kernel_rfl) rfl #[.slice A0_1 l0_1.length c0_1, .string (⟨#[]⟩ : ByteArray)] rfl (by (try simp only [List.map_toArray, List.map_cons, List.map_nil]); first | done | rfl | (simp only [List.length_drop, List.length_take]; rfl)) ?_; (with_reducible refine (strings_Join.calls _ _ l0_1 (⟨#[]⟩ : ByteArray) t124 _ ?side1 ?side2 A12.out).mono ?_); (case side1 => repeat (first | exact (Kd.C_below HR0_1.out HB.out) | (with_reducible refine Kd.C_alloc ?_ _) | (with_reducible refine Kd.C_drewN ?_ _) | (with_reducible refine Kd.C_drew ?_))); (case side2 => exact HC0_1.out); rintro e w15 ⟨rfl, hb⟩; refine ⟨_, rfl, ?_⟩; have n0_ := Aside0.mk (blk_below (g := gb121) (o := .cells #[.slice A0_0 l0_0.length c0_0, .slice A0_1 l0_1.length c0_1, .slice A0_2 l0_2.length c0_2, .bool a0_3] 30 (0, 0)) (by (with_reducible repeat (first | refine blk_drewN ?_ _ | refine blk_drew ?_ | refine blk_alloc ?_ _)); exact BK121.out) hb); have n1_ := Aside0.mk (blk_below (g := gb122) (o := .cells #[.string (⟨#[]⟩ : ByteArray), .bool false] 51 (0, 0)) (by (with_reducible repeat (first | refine blk_drewN ?_ _ | refine blk_drew ?_ | refine blk_alloc ?_ _)); exact BK122.out) hb); have n2_ := Aside0.mk (below_step (by repeat (first | (with_reducible first | exact HB.out | apply below_alloc | apply pw_below_drewN | apply below_drew1 | refine below_set ?_ GE121.out | refine below_set ?_ GE122.out) | exact HB.out)) hb); clear BK121; clear BK122; clear HB; have BK121 := n0_; have BK122 := n1_; have HB := n2_; clear n0_ n1_ n2_; (try clear hb); (try clear hb2); (try clear hk); (try clear hi); have hcz16_0 : w15.cell? ⟨gb122, 0, none⟩ = some (.string (⟨#[]⟩ : ByteArray)) := (blk_cell BK122.out 0).trans rfl; have hcz16_1 : w15.cell? ⟨gb122, 1, none⟩ = some (.bool false) := (blk_cell BK122.out 1).trans rfl; have hfz16_0 := blk_frozen BK122.out 0; have hfz16_1 := blk_frozen BK122.out 1))
    refine bodyPost_ret (results_cell_row rfl _ _ gb122 51 #[.string t124, .bool false] (0, 0) _ rfl (by (with_reducible repeat (first | refine blk_drewN ?_ _ | refine blk_drew ?_ | refine blk_alloc ?_ _)); refine blk_put (cs := #[.string t124, .bool false]) ?_ 1 _ rfl; (with_reducible repeat (first | refine blk_drewN ?_ _ | refine blk_drew ?_ | refine blk_alloc ?_ _)); refine blk_put (cs := #[.string (⟨#[]⟩ : ByteArray), .bool false]) ?_ 0 _ rfl; (with_reducible repeat (first | refine blk_drewN ?_ _ | refine blk_drew ?_ | refine blk_alloc ?_ _)); exact BK122.out) Tryd.underlying51 rfl (by kernel_rfl)) rfl ?_
    exact ⟨by first | rfl | (simp [errW_none, errW_some] <;> rfl) | (simp [*, errW_none, errW_some] <;> rfl), by repeat (first | (with_reducible first | exact HB.out | apply below_alloc | apply pw_below_drewN | apply below_drew1 | refine below_set ?_ GE121.out | refine below_set ?_ GE122.out) | exact HB.out)⟩
   ·replace c11 := Bool.eq_false_iff.mpr c11
    subst c11
    have H1 : ((slices_Equal__string_string.f kj1 l0_2 l0_0).bind fun t125 => (if t125 = true then ((strings_Join.f l0_1 (⟨#[]⟩ : ByteArray)).bind fun t126 => (some (t126, false))) else ((slices_Equal__string_string.f kj1 l0_1 l0_0).bind fun t127 => (if t127 = true then ((strings_Join.f l0_2 (⟨#[]⟩ : ByteArray)).bind fun t128 => (some (t128, false))) else ((merge_ended.f l0_1).bind fun t129 => (if 8 + t129.size ≤ 9223372036854775807 then (if ((⟨#[60, 60, 60, 60, 60, 60, 60, 10]⟩ : ByteArray) ++ t129).size + 8 ≤ 9223372036854775807 then ((merge_ended.f l0_2).bind fun t130 => (if (((⟨#[60, 60, 60, 60, 60, 60, 60, 10]⟩ : ByteArray) ++ t129) ++ (⟨#[61, 61, 61, 61, 61, 61, 61, 10]⟩ : ByteArray)).size + t130.size ≤ 9223372036854775807 then (if ((((⟨#[60, 60, 60, 60, 60, 60, 60, 10]⟩ : ByteArray) ++ t129) ++ (⟨#[61, 61, 61, 61, 61, 61, 61, 10]⟩ : ByteArray)) ++ t130).size + 8 ≤ 9223372036854775807 then (some (((((⟨#[60, 60, 60, 60, 60, 60, 60, 10]⟩ : ByteArray) ++ t129) ++ (⟨#[61, 61, 61, 61, 61, 61, 61, 10]⟩ : ByteArray)) ++ t130) ++ (⟨#[62, 62, 62, 62, 62, 62, 62, 10]⟩ : ByteArray), true)) else (none)) else (none))) else (none)) else (none))))))) = some (r1, r2) := by rw [if_neg (show ¬ (false = true) by decide)] at H; exact H
    clear H
    have H := H1
    clear H1
    replace H := Option.bind_eq_some_iff.mp H
    obtain ⟨t125, A170, H⟩ := H
    replace H : (if t125 = true then ((strings_Join.f l0_1 (⟨#[]⟩ : ByteArray)).bind fun t126 => (some (t126, false))) else ((slices_Equal__string_string.f kj1 l0_1 l0_0).bind fun t127 => (if t127 = true then ((strings_Join.f l0_2 (⟨#[]⟩ : ByteArray)).bind fun t128 => (some (t128, false))) else ((merge_ended.f l0_1).bind fun t129 => (if 8 + t129.size ≤ 9223372036854775807 then (if ((⟨#[60, 60, 60, 60, 60, 60, 60, 10]⟩ : ByteArray) ++ t129).size + 8 ≤ 9223372036854775807 then ((merge_ended.f l0_2).bind fun t130 => (if (((⟨#[60, 60, 60, 60, 60, 60, 60, 10]⟩ : ByteArray) ++ t129) ++ (⟨#[61, 61, 61, 61, 61, 61, 61, 10]⟩ : ByteArray)).size + t130.size ≤ 9223372036854775807 then (if ((((⟨#[60, 60, 60, 60, 60, 60, 60, 10]⟩ : ByteArray) ++ t129) ++ (⟨#[61, 61, 61, 61, 61, 61, 61, 10]⟩ : ByteArray)) ++ t130).size + 8 ≤ 9223372036854775807 then (some (((((⟨#[60, 60, 60, 60, 60, 60, 60, 10]⟩ : ByteArray) ++ t129) ++ (⟨#[61, 61, 61, 61, 61, 61, 61, 10]⟩ : ByteArray)) ++ t130) ++ (⟨#[62, 62, 62, 62, 62, 62, 62, 10]⟩ : ByteArray), true)) else (none)) else (none))) else (none)) else (none)))))) = some (r1, r2) := H
    have A17 := Aside0.mk A170
    clear A170
    by_cases c18 : t125 = true
    ·subst c18
     have H1 : ((strings_Join.f l0_1 (⟨#[]⟩ : ByteArray)).bind fun t126 => (some (t126, false))) = some (r1, r2) := by rw [if_pos rfl] at H; exact H
     clear H
     have H := H1
     clear H1
     replace H := Option.bind_eq_some_iff.mp H
     obtain ⟨t126, A190, H⟩ := H
     replace H : (some (t126, false)) = some (r1, r2) := H
     have A19 := Aside0.mk A190
     clear A190
     simp only [Option.some.injEq, Prod.mk.injEq] at H
     obtain ⟨rfl, rfl⟩ := H
     have hnb20 := NB121_122.out
     have hnc20 := NB122_121.out
     have hcz21_0 : wc.cell? ⟨gb121, 0, none⟩ = some (.slice A0_0 l0_0.length c0_0) := (blk_cell BK121.out 0).trans rfl
     have hcz21_1 : wc.cell? ⟨gb121, 1, none⟩ = some (.slice A0_1 l0_1.length c0_1) := (blk_cell BK121.out 1).trans rfl
     have hcz21_2 : wc.cell? ⟨gb121, 2, none⟩ = some (.slice A0_2 l0_2.length c0_2) := (blk_cell BK121.out 2).trans rfl
     have hcz21_3 : wc.cell? ⟨gb121, 3, none⟩ = some (.bool a0_3) := (blk_cell BK121.out 3).trans rfl
     have hfz21_0 := blk_frozen BK121.out 0
     have hfz21_1 := blk_frozen BK121.out 1
     have hfz21_2 := blk_frozen BK121.out 2
     have hfz21_3 := blk_frozen BK121.out 3
     go_wp2_with (first | ((with_reducible refine gate_callee (f := 28) rfl ?_); refine goesL_ (some 22) rfl rfl Tryd.func28 (by kernel_rfl) rfl #[.slice A0_2 l0_2.length c0_2, .slice A0_0 l0_0.length c0_0] rfl (by (try simp only [List.map_toArray, List.map_cons, List.map_nil]); first | done | rfl | (simp only [List.length_drop, List.length_take]; rfl)) ?_; (with_reducible refine (slices_Equal__string_string.calls kj1 _ _ l0_2 _ _ l0_0 true _ ?side1 ?side2 ?side3 ?side4 A17.out).mono ?_); (case side1 => repeat (first | exact (Kd.C_below HR0_2.out HB.out) | (with_reducible refine Kd.C_alloc ?_ _) | (with_reducible refine Kd.C_drewN ?_ _) | (with_reducible refine Kd.C_drew ?_))); (case side2 => exact HC0_2.out); (case side3 => repeat (first | exact (Kd.C_below HR0_0.out HB.out) | (with_reducible refine Kd.C_alloc ?_ _) | (with_reducible refine Kd.C_drewN ?_ _) | (with_reducible refine Kd.C_drew ?_))); (case side4 => exact HC0_0.out); rintro e w' ⟨rfl, ⟨nd, rfl⟩⟩; refine ⟨_, rfl, ?_⟩; (try (rw [drewN_self wc]; generalize hq_ : World.drewN wc _ = wc; have n0_ : Aside0 (wc.heap[gb121]? = some (.cells #[.slice A0_0 l0_0.length c0_0, .slice A0_1 l0_1.length c0_1, .slice A0_2 l0_2.length c0_2, .bool a0_3] 30 (0, 0))) := ⟨by rw [← hq_]; exact (by (with_reducible repeat (first | refine blk_drewN ?_ _ | refine blk_drew ?_ | refine blk_alloc ?_ _)); exact BK121.out)⟩; have n1_ : Aside0 (wc.heap[gb122]? = some (.cells #[.string (⟨#[]⟩ : ByteArray), .bool false] 51 (0, 0))) := ⟨by rw [← hq_]; exact (by (with_reducible repeat (first | refine blk_drewN ?_ _ | refine blk_drew ?_ | refine blk_alloc ?_ _)); exact BK122.out)⟩; have n2_ : Aside0 (Below w.heap.size w wc) := ⟨by rw [← hq_]; exact (by repeat (first | (with_reducible first | exact HB.out | apply below_alloc | apply pw_below_drewN | apply below_drew1 | refine below_set ?_ GE121.out | refine below_set ?_ GE122.out) | exact HB.out))⟩; clear BK121 BK122 HB hq_; have BK121 := n0_; have BK122 := n1_; have HB := n2_; clear n0_ n1_ n2_; have hkz_121_0 := (blk_cell BK121.out 0).trans rfl; have hkf_121_0 := blk_frozen BK121.out 0; have hkz_121_1 := (blk_cell BK121.out 1).trans rfl; have hkf_121_1 := blk_frozen BK121.out 1; have hkz_121_2 := (blk_cell BK121.out 2).trans rfl; have hkf_121_2 := blk_frozen BK121.out 2; have hkz_121_3 := (blk_cell BK121.out 3).trans rfl; have hkf_121_3 := blk_frozen BK121.out 3; have hkz_122_0 := (blk_cell BK122.out 0).trans rfl; have hkf_122_0 := blk_frozen BK122.out 0; have hkz_122_1 := (blk_cell BK122.out 1).trans rfl; have hkf_122_1 := blk_frozen BK122.out 1))) | ((with_reducible refine gate_callee (f := 29) rfl ?_); refine goesL_ (some 25) rfl rfl Tryd.func29 (by kernel_rfl) rfl #[.slice A0_1 l0_1.length c0_1, .string (⟨#[]⟩ : ByteArray)] rfl (by (try simp only [List.map_toArray, List.map_cons, List.map_nil]); first | done | rfl | (simp only [List.length_drop, List.length_take]; rfl)) ?_; (with_reducible refine (strings_Join.calls _ _ l0_1 (⟨#[]⟩ : ByteArray) t126 _ ?side1 ?side2 A19.out).mono ?_); (case side1 => repeat (first | exact (Kd.C_below HR0_1.out HB.out) | (with_reducible refine Kd.C_alloc ?_ _) | (with_reducible refine Kd.C_drewN ?_ _) | (with_reducible refine Kd.C_drew ?_))); (case side2 => exact HC0_1.out); rintro e w22 ⟨rfl, hb⟩; refine ⟨_, rfl, ?_⟩; have n0_ := Aside0.mk (blk_below (g := gb121) (o := .cells #[.slice A0_0 l0_0.length c0_0, .slice A0_1 l0_1.length c0_1, .slice A0_2 l0_2.length c0_2, .bool a0_3] 30 (0, 0)) (by (with_reducible repeat (first | refine blk_drewN ?_ _ | refine blk_drew ?_ | refine blk_alloc ?_ _)); exact BK121.out) hb); have n1_ := Aside0.mk (blk_below (g := gb122) (o := .cells #[.string (⟨#[]⟩ : ByteArray), .bool false] 51 (0, 0)) (by (with_reducible repeat (first | refine blk_drewN ?_ _ | refine blk_drew ?_ | refine blk_alloc ?_ _)); exact BK122.out) hb); have n2_ := Aside0.mk (below_step (by repeat (first | (with_reducible first | exact HB.out | apply below_alloc | apply pw_below_drewN | apply below_drew1 | refine below_set ?_ GE121.out | refine below_set ?_ GE122.out) | exact HB.out)) hb); clear BK121; clear BK122; clear HB; have BK121 := n0_; have BK122 := n1_; have HB := n2_; clear n0_ n1_ n2_; (try clear hb); (try clear hb2); (try clear hk); (try clear hi); have hcz23_0 : w22.cell? ⟨gb122, 0, none⟩ = some (.string (⟨#[]⟩ : ByteArray)) := (blk_cell BK122.out 0).trans rfl; have hcz23_1 : w22.cell? ⟨gb122, 1, none⟩ = some (.bool false) := (blk_cell BK122.out 1).trans rfl; have hfz23_0 := blk_frozen BK122.out 0; have hfz23_1 := blk_frozen BK122.out 1))
     refine bodyPost_ret (results_cell_row rfl _ _ gb122 51 #[.string t126, .bool false] (0, 0) _ rfl (by (with_reducible repeat (first | refine blk_drewN ?_ _ | refine blk_drew ?_ | refine blk_alloc ?_ _)); refine blk_put (cs := #[.string t126, .bool false]) ?_ 1 _ rfl; (with_reducible repeat (first | refine blk_drewN ?_ _ | refine blk_drew ?_ | refine blk_alloc ?_ _)); refine blk_put (cs := #[.string (⟨#[]⟩ : ByteArray), .bool false]) ?_ 0 _ rfl; (with_reducible repeat (first | refine blk_drewN ?_ _ | refine blk_drew ?_ | refine blk_alloc ?_ _)); exact BK122.out) Tryd.underlying51 rfl (by kernel_rfl)) rfl ?_
     exact ⟨by first | rfl | (simp [errW_none, errW_some] <;> rfl) | (simp [*, errW_none, errW_some] <;> rfl), by repeat (first | (with_reducible first | exact HB.out | apply below_alloc | apply pw_below_drewN | apply below_drew1 | refine below_set ?_ GE121.out | refine below_set ?_ GE122.out) | exact HB.out)⟩
    ·replace c18 := Bool.eq_false_iff.mpr c18
     subst c18
     have H1 : ((slices_Equal__string_string.f kj1 l0_1 l0_0).bind fun t127 => (if t127 = true then ((strings_Join.f l0_2 (⟨#[]⟩ : ByteArray)).bind fun t128 => (some (t128, false))) else ((merge_ended.f l0_1).bind fun t129 => (if 8 + t129.size ≤ 9223372036854775807 then (if ((⟨#[60, 60, 60, 60, 60, 60, 60, 10]⟩ : ByteArray) ++ t129).size + 8 ≤ 9223372036854775807 then ((merge_ended.f l0_2).bind fun t130 => (if (((⟨#[60, 60, 60, 60, 60, 60, 60, 10]⟩ : ByteArray) ++ t129) ++ (⟨#[61, 61, 61, 61, 61, 61, 61, 10]⟩ : ByteArray)).size + t130.size ≤ 9223372036854775807 then (if ((((⟨#[60, 60, 60, 60, 60, 60, 60, 10]⟩ : ByteArray) ++ t129) ++ (⟨#[61, 61, 61, 61, 61, 61, 61, 10]⟩ : ByteArray)) ++ t130).size + 8 ≤ 9223372036854775807 then (some (((((⟨#[60, 60, 60, 60, 60, 60, 60, 10]⟩ : ByteArray) ++ t129) ++ (⟨#[61, 61, 61, 61, 61, 61, 61, 10]⟩ : ByteArray)) ++ t130) ++ (⟨#[62, 62, 62, 62, 62, 62, 62, 10]⟩ : ByteArray), true)) else (none)) else (none))) else (none)) else (none))))) = some (r1, r2) := by rw [if_neg (show ¬ (false = true) by decide)] at H; exact H
     clear H
     have H := H1
     clear H1
     replace H := Option.bind_eq_some_iff.mp H
     obtain ⟨t127, A240, H⟩ := H
     replace H : (if t127 = true then ((strings_Join.f l0_2 (⟨#[]⟩ : ByteArray)).bind fun t128 => (some (t128, false))) else ((merge_ended.f l0_1).bind fun t129 => (if 8 + t129.size ≤ 9223372036854775807 then (if ((⟨#[60, 60, 60, 60, 60, 60, 60, 10]⟩ : ByteArray) ++ t129).size + 8 ≤ 9223372036854775807 then ((merge_ended.f l0_2).bind fun t130 => (if (((⟨#[60, 60, 60, 60, 60, 60, 60, 10]⟩ : ByteArray) ++ t129) ++ (⟨#[61, 61, 61, 61, 61, 61, 61, 10]⟩ : ByteArray)).size + t130.size ≤ 9223372036854775807 then (if ((((⟨#[60, 60, 60, 60, 60, 60, 60, 10]⟩ : ByteArray) ++ t129) ++ (⟨#[61, 61, 61, 61, 61, 61, 61, 10]⟩ : ByteArray)) ++ t130).size + 8 ≤ 9223372036854775807 then (some (((((⟨#[60, 60, 60, 60, 60, 60, 60, 10]⟩ : ByteArray) ++ t129) ++ (⟨#[61, 61, 61, 61, 61, 61, 61, 10]⟩ : ByteArray)) ++ t130) ++ (⟨#[62, 62, 62, 62, 62, 62, 62, 10]⟩ : ByteArray), true)) else (none)) else (none))) else (none)) else (none)))) = some (r1, r2) := H
     have A24 := Aside0.mk A240
     clear A240
     by_cases c25 : t127 = true
     ·subst c25
      have H1 : ((strings_Join.f l0_2 (⟨#[]⟩ : ByteArray)).bind fun t128 => (some (t128, false))) = some (r1, r2) := by rw [if_pos rfl] at H; exact H
      clear H
      have H := H1
      clear H1
      replace H := Option.bind_eq_some_iff.mp H
      obtain ⟨t128, A260, H⟩ := H
      replace H : (some (t128, false)) = some (r1, r2) := H
      have A26 := Aside0.mk A260
      clear A260
      simp only [Option.some.injEq, Prod.mk.injEq] at H
      obtain ⟨rfl, rfl⟩ := H
      have hnb27 := NB121_122.out
      have hnc27 := NB122_121.out
      have hcz28_0 : wc.cell? ⟨gb121, 0, none⟩ = some (.slice A0_0 l0_0.length c0_0) := (blk_cell BK121.out 0).trans rfl
      have hcz28_1 : wc.cell? ⟨gb121, 1, none⟩ = some (.slice A0_1 l0_1.length c0_1) := (blk_cell BK121.out 1).trans rfl
      have hcz28_2 : wc.cell? ⟨gb121, 2, none⟩ = some (.slice A0_2 l0_2.length c0_2) := (blk_cell BK121.out 2).trans rfl
      have hcz28_3 : wc.cell? ⟨gb121, 3, none⟩ = some (.bool a0_3) := (blk_cell BK121.out 3).trans rfl
      have hfz28_0 := blk_frozen BK121.out 0
      have hfz28_1 := blk_frozen BK121.out 1
      have hfz28_2 := blk_frozen BK121.out 2
      have hfz28_3 := blk_frozen BK121.out 3
      go_wp2_with (first | ((with_reducible refine gate_callee (f := 28) rfl ?_); refine goesL_ (some 22) rfl rfl Tryd.func28 (by kernel_rfl) rfl #[.slice A0_2 l0_2.length c0_2, .slice A0_0 l0_0.length c0_0] rfl (by (try simp only [List.map_toArray, List.map_cons, List.map_nil]); first | done | rfl | (simp only [List.length_drop, List.length_take]; rfl)) ?_; (with_reducible refine (slices_Equal__string_string.calls kj1 _ _ l0_2 _ _ l0_0 false _ ?side1 ?side2 ?side3 ?side4 A17.out).mono ?_); (case side1 => repeat (first | exact (Kd.C_below HR0_2.out HB.out) | (with_reducible refine Kd.C_alloc ?_ _) | (with_reducible refine Kd.C_drewN ?_ _) | (with_reducible refine Kd.C_drew ?_))); (case side2 => exact HC0_2.out); (case side3 => repeat (first | exact (Kd.C_below HR0_0.out HB.out) | (with_reducible refine Kd.C_alloc ?_ _) | (with_reducible refine Kd.C_drewN ?_ _) | (with_reducible refine Kd.C_drew ?_))); (case side4 => exact HC0_0.out); rintro e w' ⟨rfl, ⟨nd, rfl⟩⟩; refine ⟨_, rfl, ?_⟩; (try (rw [drewN_self wc]; generalize hq_ : World.drewN wc _ = wc; have n0_ : Aside0 (wc.heap[gb121]? = some (.cells #[.slice A0_0 l0_0.length c0_0, .slice A0_1 l0_1.length c0_1, .slice A0_2 l0_2.length c0_2, .bool a0_3] 30 (0, 0))) := ⟨by rw [← hq_]; exact (by (with_reducible repeat (first | refine blk_drewN ?_ _ | refine blk_drew ?_ | refine blk_alloc ?_ _)); exact BK121.out)⟩; have n1_ : Aside0 (wc.heap[gb122]? = some (.cells #[.string (⟨#[]⟩ : ByteArray), .bool false] 51 (0, 0))) := ⟨by rw [← hq_]; exact (by (with_reducible repeat (first | refine blk_drewN ?_ _ | refine blk_drew ?_ | refine blk_alloc ?_ _)); exact BK122.out)⟩; have n2_ : Aside0 (Below w.heap.size w wc) := ⟨by rw [← hq_]; exact (by repeat (first | (with_reducible first | exact HB.out | apply below_alloc | apply pw_below_drewN | apply below_drew1 | refine below_set ?_ GE121.out | refine below_set ?_ GE122.out) | exact HB.out))⟩; clear BK121 BK122 HB hq_; have BK121 := n0_; have BK122 := n1_; have HB := n2_; clear n0_ n1_ n2_; have hkz_121_0 := (blk_cell BK121.out 0).trans rfl; have hkf_121_0 := blk_frozen BK121.out 0; have hkz_121_1 := (blk_cell BK121.out 1).trans rfl; have hkf_121_1 := blk_frozen BK121.out 1; have hkz_121_2 := (blk_cell BK121.out 2).trans rfl; have hkf_121_2 := blk_frozen BK121.out 2; have hkz_121_3 := (blk_cell BK121.out 3).trans rfl; have hkf_121_3 := blk_frozen BK121.out 3; have hkz_122_0 := (blk_cell BK122.out 0).trans rfl; have hkf_122_0 := blk_frozen BK122.out 0; have hkz_122_1 := (blk_cell BK122.out 1).trans rfl; have hkf_122_1 := blk_frozen BK122.out 1))) | ((with_reducible refine gate_callee (f := 28) rfl ?_); refine goesL_ (some 32) rfl rfl Tryd.func28 (by kernel_rfl) rfl #[.slice A0_1 l0_1.length c0_1, .slice A0_0 l0_0.length c0_0] rfl (by (try simp only [List.map_toArray, List.map_cons, List.map_nil]); first | done | rfl | (simp only [List.length_drop, List.length_take]; rfl)) ?_; (with_reducible refine (slices_Equal__string_string.calls kj1 _ _ l0_1 _ _ l0_0 true _ ?side1 ?side2 ?side3 ?side4 A24.out).mono ?_); (case side1 => repeat (first | exact (Kd.C_below HR0_1.out HB.out) | (with_reducible refine Kd.C_alloc ?_ _) | (with_reducible refine Kd.C_drewN ?_ _) | (with_reducible refine Kd.C_drew ?_))); (case side2 => exact HC0_1.out); (case side3 => repeat (first | exact (Kd.C_below HR0_0.out HB.out) | (with_reducible refine Kd.C_alloc ?_ _) | (with_reducible refine Kd.C_drewN ?_ _) | (with_reducible refine Kd.C_drew ?_))); (case side4 => exact HC0_0.out); rintro e w' ⟨rfl, ⟨nd, rfl⟩⟩; refine ⟨_, rfl, ?_⟩; (try (rw [drewN_self wc]; generalize hq_ : World.drewN wc _ = wc; have n0_ : Aside0 (wc.heap[gb121]? = some (.cells #[.slice A0_0 l0_0.length c0_0, .slice A0_1 l0_1.length c0_1, .slice A0_2 l0_2.length c0_2, .bool a0_3] 30 (0, 0))) := ⟨by rw [← hq_]; exact (by (with_reducible repeat (first | refine blk_drewN ?_ _ | refine blk_drew ?_ | refine blk_alloc ?_ _)); exact BK121.out)⟩; have n1_ : Aside0 (wc.heap[gb122]? = some (.cells #[.string (⟨#[]⟩ : ByteArray), .bool false] 51 (0, 0))) := ⟨by rw [← hq_]; exact (by (with_reducible repeat (first | refine blk_drewN ?_ _ | refine blk_drew ?_ | refine blk_alloc ?_ _)); exact BK122.out)⟩; have n2_ : Aside0 (Below w.heap.size w wc) := ⟨by rw [← hq_]; exact (by repeat (first | (with_reducible first | exact HB.out | apply below_alloc | apply pw_below_drewN | apply below_drew1 | refine below_set ?_ GE121.out | refine below_set ?_ GE122.out) | exact HB.out))⟩; clear BK121 BK122 HB hq_; have BK121 := n0_; have BK122 := n1_; have HB := n2_; clear n0_ n1_ n2_; have hkz_121_0 := (blk_cell BK121.out 0).trans rfl; have hkf_121_0 := blk_frozen BK121.out 0; have hkz_121_1 := (blk_cell BK121.out 1).trans rfl; have hkf_121_1 := blk_frozen BK121.out 1; have hkz_121_2 := (blk_cell BK121.out 2).trans rfl; have hkf_121_2 := blk_frozen BK121.out 2; have hkz_121_3 := (blk_cell BK121.out 3).trans rfl; have hkf_121_3 := blk_frozen BK121.out 3; have hkz_122_0 := (blk_cell BK122.out 0).trans rfl; have hkf_122_0 := blk_frozen BK122.out 0; have hkz_122_1 := (blk_cell BK122.out 1).trans rfl; have hkf_122_1 := blk_frozen BK122.out 1))) | ((with_reducible refine gate_callee (f := 29) rfl ?_); refine goesL_ (some 35) rfl rfl Tryd.func29 (by kernel_rfl) rfl #[.slice A0_2 l0_2.length c0_2, .string (⟨#[]⟩ : ByteArray)] rfl (by (try simp only [List.map_toArray, List.map_cons, List.map_nil]); first | done | rfl | (simp only [List.length_drop, List.length_take]; rfl)) ?_; (with_reducible refine (strings_Join.calls _ _ l0_2 (⟨#[]⟩ : ByteArray) t128 _ ?side1 ?side2 A26.out).mono ?_); (case side1 => repeat (first | exact (Kd.C_below HR0_2.out HB.out) | (with_reducible refine Kd.C_alloc ?_ _) | (with_reducible refine Kd.C_drewN ?_ _) | (with_reducible refine Kd.C_drew ?_))); (case side2 => exact HC0_2.out); rintro e w29 ⟨rfl, hb⟩; refine ⟨_, rfl, ?_⟩; have n0_ := Aside0.mk (blk_below (g := gb121) (o := .cells #[.slice A0_0 l0_0.length c0_0, .slice A0_1 l0_1.length c0_1, .slice A0_2 l0_2.length c0_2, .bool a0_3] 30 (0, 0)) (by (with_reducible repeat (first | refine blk_drewN ?_ _ | refine blk_drew ?_ | refine blk_alloc ?_ _)); exact BK121.out) hb); have n1_ := Aside0.mk (blk_below (g := gb122) (o := .cells #[.string (⟨#[]⟩ : ByteArray), .bool false] 51 (0, 0)) (by (with_reducible repeat (first | refine blk_drewN ?_ _ | refine blk_drew ?_ | refine blk_alloc ?_ _)); exact BK122.out) hb); have n2_ := Aside0.mk (below_step (by repeat (first | (with_reducible first | exact HB.out | apply below_alloc | apply pw_below_drewN | apply below_drew1 | refine below_set ?_ GE121.out | refine below_set ?_ GE122.out) | exact HB.out)) hb); clear BK121; clear BK122; clear HB; have BK121 := n0_; have BK122 := n1_; have HB := n2_; clear n0_ n1_ n2_; (try clear hb); (try clear hb2); (try clear hk); (try clear hi); have hcz30_0 : w29.cell? ⟨gb122, 0, none⟩ = some (.string (⟨#[]⟩ : ByteArray)) := (blk_cell BK122.out 0).trans rfl; have hcz30_1 : w29.cell? ⟨gb122, 1, none⟩ = some (.bool false) := (blk_cell BK122.out 1).trans rfl; have hfz30_0 := blk_frozen BK122.out 0; have hfz30_1 := blk_frozen BK122.out 1))
      refine bodyPost_ret (results_cell_row rfl _ _ gb122 51 #[.string t128, .bool false] (0, 0) _ rfl (by (with_reducible repeat (first | refine blk_drewN ?_ _ | refine blk_drew ?_ | refine blk_alloc ?_ _)); refine blk_put (cs := #[.string t128, .bool false]) ?_ 1 _ rfl; (with_reducible repeat (first | refine blk_drewN ?_ _ | refine blk_drew ?_ | refine blk_alloc ?_ _)); refine blk_put (cs := #[.string (⟨#[]⟩ : ByteArray), .bool false]) ?_ 0 _ rfl; (with_reducible repeat (first | refine blk_drewN ?_ _ | refine blk_drew ?_ | refine blk_alloc ?_ _)); exact BK122.out) Tryd.underlying51 rfl (by kernel_rfl)) rfl ?_
      exact ⟨by first | rfl | (simp [errW_none, errW_some] <;> rfl) | (simp [*, errW_none, errW_some] <;> rfl), by repeat (first | (with_reducible first | exact HB.out | apply below_alloc | apply pw_below_drewN | apply below_drew1 | refine below_set ?_ GE121.out | refine below_set ?_ GE122.out) | exact HB.out)⟩
     ·replace c25 := Bool.eq_false_iff.mpr c25
      subst c25
      have H1 : ((merge_ended.f l0_1).bind fun t129 => (if 8 + t129.size ≤ 9223372036854775807 then (if ((⟨#[60, 60, 60, 60, 60, 60, 60, 10]⟩ : ByteArray) ++ t129).size + 8 ≤ 9223372036854775807 then ((merge_ended.f l0_2).bind fun t130 => (if (((⟨#[60, 60, 60, 60, 60, 60, 60, 10]⟩ : ByteArray) ++ t129) ++ (⟨#[61, 61, 61, 61, 61, 61, 61, 10]⟩ : ByteArray)).size + t130.size ≤ 9223372036854775807 then (if ((((⟨#[60, 60, 60, 60, 60, 60, 60, 10]⟩ : ByteArray) ++ t129) ++ (⟨#[61, 61, 61, 61, 61, 61, 61, 10]⟩ : ByteArray)) ++ t130).size + 8 ≤ 9223372036854775807 then (some (((((⟨#[60, 60, 60, 60, 60, 60, 60, 10]⟩ : ByteArray) ++ t129) ++ (⟨#[61, 61, 61, 61, 61, 61, 61, 10]⟩ : ByteArray)) ++ t130) ++ (⟨#[62, 62, 62, 62, 62, 62, 62, 10]⟩ : ByteArray), true)) else (none)) else (none))) else (none)) else (none))) = some (r1, r2) := by rw [if_neg (show ¬ (false = true) by decide)] at H; exact H
      clear H
      have H := H1
      clear H1
      replace H := Option.bind_eq_some_iff.mp H
      obtain ⟨t129, A310, H⟩ := H
      replace H : (if 8 + t129.size ≤ 9223372036854775807 then (if ((⟨#[60, 60, 60, 60, 60, 60, 60, 10]⟩ : ByteArray) ++ t129).size + 8 ≤ 9223372036854775807 then ((merge_ended.f l0_2).bind fun t130 => (if (((⟨#[60, 60, 60, 60, 60, 60, 60, 10]⟩ : ByteArray) ++ t129) ++ (⟨#[61, 61, 61, 61, 61, 61, 61, 10]⟩ : ByteArray)).size + t130.size ≤ 9223372036854775807 then (if ((((⟨#[60, 60, 60, 60, 60, 60, 60, 10]⟩ : ByteArray) ++ t129) ++ (⟨#[61, 61, 61, 61, 61, 61, 61, 10]⟩ : ByteArray)) ++ t130).size + 8 ≤ 9223372036854775807 then (some (((((⟨#[60, 60, 60, 60, 60, 60, 60, 10]⟩ : ByteArray) ++ t129) ++ (⟨#[61, 61, 61, 61, 61, 61, 61, 10]⟩ : ByteArray)) ++ t130) ++ (⟨#[62, 62, 62, 62, 62, 62, 62, 10]⟩ : ByteArray), true)) else (none)) else (none))) else (none)) else (none)) = some (r1, r2) := H
      have A31 := Aside0.mk A310
      clear A310
      by_cases c32 : 8 + t129.size ≤ 9223372036854775807
      ·rw [if_pos c32] at H
       have c32b0 := eq_true c32
       have c32b1 : decide (8 + t129.size ≤ 9223372036854775807) = true := decide_eq_true c32
       try have c32b2 : (9223372036854775807 < 8 + t129.size) = False := eq_false (Nat.not_lt.2 c32)
       by_cases c33 : ((⟨#[60, 60, 60, 60, 60, 60, 60, 10]⟩ : ByteArray) ++ t129).size + 8 ≤ 9223372036854775807
       ·rw [if_pos c33] at H
        have c33b0 := eq_true c33
        have c33b1 : decide (((⟨#[60, 60, 60, 60, 60, 60, 60, 10]⟩ : ByteArray) ++ t129).size + 8 ≤ 9223372036854775807) = true := decide_eq_true c33
        try have c33b2 : (9223372036854775807 < ((⟨#[60, 60, 60, 60, 60, 60, 60, 10]⟩ : ByteArray) ++ t129).size + 8) = False := eq_false (Nat.not_lt.2 c33)
        try have c33b3 : (9223372036854775807 < 8 + t129.size + 8) = False := eq_false (by have h_ := c33; simp only [ByteArray.size_append] at h_; have hl0_ : ByteArray.size ⟨#[60, 60, 60, 60, 60, 60, 60, 10]⟩ = 8 := rfl; omega)
        replace H := Option.bind_eq_some_iff.mp H
        obtain ⟨t130, A340, H⟩ := H
        replace H : (if (((⟨#[60, 60, 60, 60, 60, 60, 60, 10]⟩ : ByteArray) ++ t129) ++ (⟨#[61, 61, 61, 61, 61, 61, 61, 10]⟩ : ByteArray)).size + t130.size ≤ 9223372036854775807 then (if ((((⟨#[60, 60, 60, 60, 60, 60, 60, 10]⟩ : ByteArray) ++ t129) ++ (⟨#[61, 61, 61, 61, 61, 61, 61, 10]⟩ : ByteArray)) ++ t130).size + 8 ≤ 9223372036854775807 then (some (((((⟨#[60, 60, 60, 60, 60, 60, 60, 10]⟩ : ByteArray) ++ t129) ++ (⟨#[61, 61, 61, 61, 61, 61, 61, 10]⟩ : ByteArray)) ++ t130) ++ (⟨#[62, 62, 62, 62, 62, 62, 62, 10]⟩ : ByteArray), true)) else (none)) else (none)) = some (r1, r2) := H
        have A34 := Aside0.mk A340
        clear A340
        by_cases c35 : (((⟨#[60, 60, 60, 60, 60, 60, 60, 10]⟩ : ByteArray) ++ t129) ++ (⟨#[61, 61, 61, 61, 61, 61, 61, 10]⟩ : ByteArray)).size + t130.size ≤ 9223372036854775807
        ·rw [if_pos c35] at H
         have c35b0 := eq_true c35
         have c35b1 : decide ((((⟨#[60, 60, 60, 60, 60, 60, 60, 10]⟩ : ByteArray) ++ t129) ++ (⟨#[61, 61, 61, 61, 61, 61, 61, 10]⟩ : ByteArray)).size + t130.size ≤ 9223372036854775807) = true := decide_eq_true c35
         try have c35b2 : (9223372036854775807 < (((⟨#[60, 60, 60, 60, 60, 60, 60, 10]⟩ : ByteArray) ++ t129) ++ (⟨#[61, 61, 61, 61, 61, 61, 61, 10]⟩ : ByteArray)).size + t130.size) = False := eq_false (Nat.not_lt.2 c35)
         try have c35b3 : (9223372036854775807 < 8 + t129.size + 8 + t130.size) = False := eq_false (by have h_ := c35; simp only [ByteArray.size_append] at h_; have hl0_ : ByteArray.size ⟨#[60, 60, 60, 60, 60, 60, 60, 10]⟩ = 8 := rfl; have hl1_ : ByteArray.size ⟨#[61, 61, 61, 61, 61, 61, 61, 10]⟩ = 8 := rfl; omega)
         by_cases c36 : ((((⟨#[60, 60, 60, 60, 60, 60, 60, 10]⟩ : ByteArray) ++ t129) ++ (⟨#[61, 61, 61, 61, 61, 61, 61, 10]⟩ : ByteArray)) ++ t130).size + 8 ≤ 9223372036854775807
         ·rw [if_pos c36] at H
          have c36b0 := eq_true c36
          have c36b1 : decide (((((⟨#[60, 60, 60, 60, 60, 60, 60, 10]⟩ : ByteArray) ++ t129) ++ (⟨#[61, 61, 61, 61, 61, 61, 61, 10]⟩ : ByteArray)) ++ t130).size + 8 ≤ 9223372036854775807) = true := decide_eq_true c36
          try have c36b2 : (9223372036854775807 < ((((⟨#[60, 60, 60, 60, 60, 60, 60, 10]⟩ : ByteArray) ++ t129) ++ (⟨#[61, 61, 61, 61, 61, 61, 61, 10]⟩ : ByteArray)) ++ t130).size + 8) = False := eq_false (Nat.not_lt.2 c36)
          try have c36b3 : (9223372036854775807 < 8 + t129.size + 8 + t130.size + 8) = False := eq_false (by have h_ := c36; simp only [ByteArray.size_append] at h_; have hl0_ : ByteArray.size ⟨#[60, 60, 60, 60, 60, 60, 60, 10]⟩ = 8 := rfl; have hl1_ : ByteArray.size ⟨#[61, 61, 61, 61, 61, 61, 61, 10]⟩ = 8 := rfl; omega)
          simp only [Option.some.injEq, Prod.mk.injEq] at H
          obtain ⟨rfl, rfl⟩ := H
          have hnb37 := NB121_122.out
          have hnc37 := NB122_121.out
          have hcz38_0 : wc.cell? ⟨gb121, 0, none⟩ = some (.slice A0_0 l0_0.length c0_0) := (blk_cell BK121.out 0).trans rfl
          have hcz38_1 : wc.cell? ⟨gb121, 1, none⟩ = some (.slice A0_1 l0_1.length c0_1) := (blk_cell BK121.out 1).trans rfl
          have hcz38_2 : wc.cell? ⟨gb121, 2, none⟩ = some (.slice A0_2 l0_2.length c0_2) := (blk_cell BK121.out 2).trans rfl
          have hcz38_3 : wc.cell? ⟨gb121, 3, none⟩ = some (.bool a0_3) := (blk_cell BK121.out 3).trans rfl
          have hfz38_0 := blk_frozen BK121.out 0
          have hfz38_1 := blk_frozen BK121.out 1
          have hfz38_2 := blk_frozen BK121.out 2
          have hfz38_3 := blk_frozen BK121.out 3
          try go_wp2_with (first | ((with_reducible refine gate_callee (f := 28) rfl ?_); refine goesL_ (some 22) rfl rfl Tryd.func28 (by kernel_rfl) rfl #[.slice A0_2 l0_2.length c0_2, .slice A0_0 l0_0.length c0_0] rfl (by (try simp only [List.map_toArray, List.map_cons, List.map_nil]); first | done | rfl | (simp only [List.length_drop, List.length_take]; rfl)) ?_; (with_reducible refine (slices_Equal__string_string.calls kj1 _ _ l0_2 _ _ l0_0 false _ ?side1 ?side2 ?side3 ?side4 A17.out).mono ?_); (case side1 => repeat (first | exact (Kd.C_below HR0_2.out HB.out) | (with_reducible refine Kd.C_alloc ?_ _) | (with_reducible refine Kd.C_drewN ?_ _) | (with_reducible refine Kd.C_drew ?_))); (case side2 => exact HC0_2.out); (case side3 => repeat (first | exact (Kd.C_below HR0_0.out HB.out) | (with_reducible refine Kd.C_alloc ?_ _) | (with_reducible refine Kd.C_drewN ?_ _) | (with_reducible refine Kd.C_drew ?_))); (case side4 => exact HC0_0.out); rintro e w' ⟨rfl, ⟨nd, rfl⟩⟩; refine ⟨_, rfl, ?_⟩; (try (rw [drewN_self wc]; generalize hq_ : World.drewN wc _ = wc; have n0_ : Aside0 (wc.heap[gb121]? = some (.cells #[.slice A0_0 l0_0.length c0_0, .slice A0_1 l0_1.length c0_1, .slice A0_2 l0_2.length c0_2, .bool a0_3] 30 (0, 0))) := ⟨by rw [← hq_]; exact (by (with_reducible repeat (first | refine blk_drewN ?_ _ | refine blk_drew ?_ | refine blk_alloc ?_ _)); exact BK121.out)⟩; have n1_ : Aside0 (wc.heap[gb122]? = some (.cells #[.string (⟨#[]⟩ : ByteArray), .bool false] 51 (0, 0))) := ⟨by rw [← hq_]; exact (by (with_reducible repeat (first | refine blk_drewN ?_ _ | refine blk_drew ?_ | refine blk_alloc ?_ _)); exact BK122.out)⟩; have n2_ : Aside0 (Below w.heap.size w wc) := ⟨by rw [← hq_]; exact (by repeat (first | (with_reducible first | exact HB.out | apply below_alloc | apply pw_below_drewN | apply below_drew1 | refine below_set ?_ GE121.out | refine below_set ?_ GE122.out) | exact HB.out))⟩; clear BK121 BK122 HB hq_; have BK121 := n0_; have BK122 := n1_; have HB := n2_; clear n0_ n1_ n2_; have hkz_121_0 := (blk_cell BK121.out 0).trans rfl; have hkf_121_0 := blk_frozen BK121.out 0; have hkz_121_1 := (blk_cell BK121.out 1).trans rfl; have hkf_121_1 := blk_frozen BK121.out 1; have hkz_121_2 := (blk_cell BK121.out 2).trans rfl; have hkf_121_2 := blk_frozen BK121.out 2; have hkz_121_3 := (blk_cell BK121.out 3).trans rfl; have hkf_121_3 := blk_frozen BK121.out 3; have hkz_122_0 := (blk_cell BK122.out 0).trans rfl; have hkf_122_0 := blk_frozen BK122.out 0; have hkz_122_1 := (blk_cell BK122.out 1).trans rfl; have hkf_122_1 := blk_frozen BK122.out 1))) | ((with_reducible refine gate_callee (f := 28) rfl ?_); refine goesL_ (some 32) rfl rfl Tryd.func28 (by kernel_rfl) rfl #[.slice A0_1 l0_1.length c0_1, .slice A0_0 l0_0.length c0_0] rfl (by (try simp only [List.map_toArray, List.map_cons, List.map_nil]); first | done | rfl | (simp only [List.length_drop, List.length_take]; rfl)) ?_; (with_reducible refine (slices_Equal__string_string.calls kj1 _ _ l0_1 _ _ l0_0 false _ ?side1 ?side2 ?side3 ?side4 A24.out).mono ?_); (case side1 => repeat (first | exact (Kd.C_below HR0_1.out HB.out) | (with_reducible refine Kd.C_alloc ?_ _) | (with_reducible refine Kd.C_drewN ?_ _) | (with_reducible refine Kd.C_drew ?_))); (case side2 => exact HC0_1.out); (case side3 => repeat (first | exact (Kd.C_below HR0_0.out HB.out) | (with_reducible refine Kd.C_alloc ?_ _) | (with_reducible refine Kd.C_drewN ?_ _) | (with_reducible refine Kd.C_drew ?_))); (case side4 => exact HC0_0.out); rintro e w' ⟨rfl, ⟨nd, rfl⟩⟩; refine ⟨_, rfl, ?_⟩; (try (rw [drewN_self wc]; generalize hq_ : World.drewN wc _ = wc; have n0_ : Aside0 (wc.heap[gb121]? = some (.cells #[.slice A0_0 l0_0.length c0_0, .slice A0_1 l0_1.length c0_1, .slice A0_2 l0_2.length c0_2, .bool a0_3] 30 (0, 0))) := ⟨by rw [← hq_]; exact (by (with_reducible repeat (first | refine blk_drewN ?_ _ | refine blk_drew ?_ | refine blk_alloc ?_ _)); exact BK121.out)⟩; have n1_ : Aside0 (wc.heap[gb122]? = some (.cells #[.string (⟨#[]⟩ : ByteArray), .bool false] 51 (0, 0))) := ⟨by rw [← hq_]; exact (by (with_reducible repeat (first | refine blk_drewN ?_ _ | refine blk_drew ?_ | refine blk_alloc ?_ _)); exact BK122.out)⟩; have n2_ : Aside0 (Below w.heap.size w wc) := ⟨by rw [← hq_]; exact (by repeat (first | (with_reducible first | exact HB.out | apply below_alloc | apply pw_below_drewN | apply below_drew1 | refine below_set ?_ GE121.out | refine below_set ?_ GE122.out) | exact HB.out))⟩; clear BK121 BK122 HB hq_; have BK121 := n0_; have BK122 := n1_; have HB := n2_; clear n0_ n1_ n2_; have hkz_121_0 := (blk_cell BK121.out 0).trans rfl; have hkf_121_0 := blk_frozen BK121.out 0; have hkz_121_1 := (blk_cell BK121.out 1).trans rfl; have hkf_121_1 := blk_frozen BK121.out 1; have hkz_121_2 := (blk_cell BK121.out 2).trans rfl; have hkf_121_2 := blk_frozen BK121.out 2; have hkz_121_3 := (blk_cell BK121.out 3).trans rfl; have hkf_121_3 := blk_frozen BK121.out 3; have hkz_122_0 := (blk_cell BK122.out 0).trans rfl; have hkf_122_0 := blk_frozen BK122.out 0; have hkz_122_1 := (blk_cell BK122.out 1).trans rfl; have hkf_122_1 := blk_frozen BK122.out 1))))
          have n0_ := Aside0.mk (blk_drew BK121.out)
          have n1_ := Aside0.mk (blk_drew BK122.out)
          have n2_ := Aside0.mk (below_drew1 HB.out)
          clear BK121
          clear BK122
          clear HB
          have BK121 := n0_
          have BK122 := n1_
          have HB := n2_
          clear n0_ n1_ n2_
          refine start_ (n := 12) (S := fun w' => w'.cell? ⟨gb121, 0, none⟩ = some (.slice A0_0 l0_0.length c0_0) ∧ w'.cell? ⟨gb121, 1, none⟩ = some (.slice A0_1 l0_1.length c0_1) ∧ w'.cell? ⟨gb121, 2, none⟩ = some (.slice A0_2 l0_2.length c0_2) ∧ w'.cell? ⟨gb121, 3, none⟩ = some (.bool a0_3)) (ds := []) #[false, false, false, false, false, false, false, false, false, false, false, false] (by kernel_rfl) rfl rfl ⟨(blk_cell BK121.out 0).trans rfl, (blk_cell BK121.out 1).trans rfl, (blk_cell BK121.out 2).trans rfl, (blk_cell BK121.out 3).trans rfl⟩ (fun hHeld => ?_); refine with_tabW merge_judge.tab7 merge_judge.bits7 (fun HT_ HW_ => ?_)
          generalize wc.drew = w39 at BK121 BK122 HB hHeld ⊢
          refine pure_ (i := 0) (N := some 37) (v := ?_) (a' := ?_) #[true, false, false, false, false, false, false, false, false, false, false, false] rfl rfl (any_of HT_.out (by kernel_rfl)) (fun _ _ _ h => h) (Or.inl ⟨by rfl, ?_⟩) ?_ ?_
          rotate_left
          ·intro w'
           go_simp
           with_reducible rfl
          rotate_left
          ·simp only [Act.put, List.setIfInBounds_toArray, List.set_cons_zero, List.set_cons_succ, i64_w, i32_w]
           rfl
          refine pure_ (i := 5) (N := some 42) (v := ?_) (a' := ?_) #[true, false, false, false, false, true, false, false, false, false, false, false] rfl rfl (any_of HT_.out (by kernel_rfl)) (fun _ _ _ h => h) (Or.inl ⟨by rfl, ?_⟩) ?_ ?_
          rotate_left
          ·intro w'
           go_simp
           with_reducible rfl
          rotate_left
          ·simp only [Act.put, List.setIfInBounds_toArray, List.set_cons_zero, List.set_cons_succ, i64_w, i32_w]
           rfl
          refine take_ (i := 1) (N := some 38) (v := ?_) (a' := ?_) #[true, true, false, false, false, true, false, false, false, false, false, false] rfl rfl (take_ofW HT_.out HW_.out (by kernel_rfl)) (fun _ _ _ h => h) (Or.inl ⟨by rfl, ?_⟩) hHeld ?_ ?_
          rotate_left
          ·rintro w' ⟨s0, s1, s2, s3⟩
           go_simp
           with_reducible rfl
          rotate_left
          ·simp only [Act.put, List.setIfInBounds_toArray, List.set_cons_zero, List.set_cons_succ, i64_w, i32_w]
           rfl
          refine take_ (i := 6) (N := some 43) (v := ?_) (a' := ?_) #[true, true, false, false, false, true, true, false, false, false, false, false] rfl rfl (take_ofW HT_.out HW_.out (by kernel_rfl)) (fun _ _ _ h => h) (Or.inl ⟨by rfl, ?_⟩) hHeld ?_ ?_
          rotate_left
          ·rintro w' ⟨s0, s1, s2, s3⟩
           go_simp
           with_reducible rfl
          rotate_left
          ·simp only [Act.put, List.setIfInBounds_toArray, List.set_cons_zero, List.set_cons_succ, i64_w, i32_w]
           rfl
          refine one_ (i := 2) (N := some 39) #[true, true, true, false, false, true, true, false, false, false, false, false] rfl rfl (one_of HT_.out (by kernel_rfl)) (by decide) (fun K hK => ?_)
          refine goes_ Tryd.func30 (by kernel_rfl) rfl #[.slice A0_1 l0_1.length c0_1] (by rfl) rfl rfl (by (try simp only [List.map_toArray, List.map_cons, List.map_nil]); first | done | rfl | (simp only [List.length_drop, List.length_take]; rfl)) ?_
          with_reducible refine (merge_ended.calls _ _ l0_1 t129 _ ?side1 ?side2 A31.out).mono ?_
          (case side1 => repeat (first | exact (Kd.C_below HR0_1.out HB.out) | (with_reducible refine Kd.C_alloc ?_ _) | (with_reducible refine Kd.C_drewN ?_ _) | (with_reducible refine Kd.C_drew ?_)))
          (case side2 => exact HC0_1.out)
          rintro e w40 ⟨rfl, hb⟩
          refine ⟨_, rfl, ?_⟩
          have n0_ := Aside0.mk (blk_below (g := gb121) (o := .cells #[.slice A0_0 l0_0.length c0_0, .slice A0_1 l0_1.length c0_1, .slice A0_2 l0_2.length c0_2, .bool a0_3] 30 (0, 0)) (by (with_reducible repeat (first | refine blk_drewN ?_ _ | refine blk_drew ?_ | refine blk_alloc ?_ _)); exact BK121.out) hb)
          have n1_ := Aside0.mk (blk_below (g := gb122) (o := .cells #[.string (⟨#[]⟩ : ByteArray), .bool false] 51 (0, 0)) (by (with_reducible repeat (first | refine blk_drewN ?_ _ | refine blk_drew ?_ | refine blk_alloc ?_ _)); exact BK122.out) hb)
          have n2_ := Aside0.mk (below_step (by repeat (first | (with_reducible first | exact HB.out | apply below_alloc | apply pw_below_drewN | apply below_drew1 | refine below_set ?_ GE121.out | refine below_set ?_ GE122.out) | exact HB.out)) hb)
          clear BK121
          clear BK122
          clear HB
          have BK121 := n0_
          have BK122 := n1_
          have HB := n2_
          clear n0_ n1_ n2_
          (try clear hb)
          (try clear hb2)
          (try clear hk)
          (try clear hi)
          refine hK.out _ _ ⟨(blk_cell BK121.out 0).trans rfl, (blk_cell BK121.out 1).trans rfl, (blk_cell BK121.out 2).trans rfl, (blk_cell BK121.out 3).trans rfl⟩ (fun hHeld => ?_)
          clear hK K
          refine norm_ (a' := ?_) ?_ ?_
          rotate_left
          ·show Act.put _ (some 39) _ = _
           simp only [Act.put, List.setIfInBounds_toArray, List.set_cons_zero, List.set_cons_succ, i64_w, i32_w]
           rfl
          refine pure_ (i := 3) (N := some 40) (v := ?_) (a' := ?_) #[true, true, true, true, false, true, true, false, false, false, false, false] rfl rfl (any_of HT_.out (by kernel_rfl)) (fun _ _ _ h => h) (Or.inl ⟨by rfl, ?_⟩) ?_ ?_
          rotate_left
          ·intro w'
           go_simp
           with_reducible rfl
          rotate_left
          ·simp only [Act.put, List.setIfInBounds_toArray, List.set_cons_zero, List.set_cons_succ, i64_w, i32_w]
           rfl
          refine pure_ (i := 4) (N := some 41) (v := ?_) (a' := ?_) #[true, true, true, true, true, true, true, false, false, false, false, false] rfl rfl (any_of HT_.out (by kernel_rfl)) (fun _ _ _ h => h) (Or.inl ⟨by rfl, ?_⟩) ?_ ?_
          rotate_left
          ·intro w'
           go_simp
           with_reducible rfl
          rotate_left
          ·simp only [Act.put, List.setIfInBounds_toArray, List.set_cons_zero, List.set_cons_succ, i64_w, i32_w]
           rfl
          refine one_ (i := 7) (N := some 44) #[true, true, true, true, true, true, true, true, false, false, false, false] rfl rfl (one_of HT_.out (by kernel_rfl)) (by decide) (fun K hK => ?_)
          refine goes_ Tryd.func30 (by kernel_rfl) rfl #[.slice A0_2 l0_2.length c0_2] (by rfl) rfl rfl (by (try simp only [List.map_toArray, List.map_cons, List.map_nil]); first | done | rfl | (simp only [List.length_drop, List.length_take]; rfl)) ?_
          with_reducible refine (merge_ended.calls _ _ l0_2 t130 _ ?side1 ?side2 A34.out).mono ?_
          (case side1 => repeat (first | exact (Kd.C_below HR0_2.out HB.out) | (with_reducible refine Kd.C_alloc ?_ _) | (with_reducible refine Kd.C_drewN ?_ _) | (with_reducible refine Kd.C_drew ?_)))
          (case side2 => exact HC0_2.out)
          rintro e w41 ⟨rfl, hb⟩
          refine ⟨_, rfl, ?_⟩
          have n0_ := Aside0.mk (blk_below (g := gb121) (o := .cells #[.slice A0_0 l0_0.length c0_0, .slice A0_1 l0_1.length c0_1, .slice A0_2 l0_2.length c0_2, .bool a0_3] 30 (0, 0)) (by (with_reducible repeat (first | refine blk_drewN ?_ _ | refine blk_drew ?_ | refine blk_alloc ?_ _)); exact BK121.out) hb)
          have n1_ := Aside0.mk (blk_below (g := gb122) (o := .cells #[.string (⟨#[]⟩ : ByteArray), .bool false] 51 (0, 0)) (by (with_reducible repeat (first | refine blk_drewN ?_ _ | refine blk_drew ?_ | refine blk_alloc ?_ _)); exact BK122.out) hb)
          have n2_ := Aside0.mk (below_step (by repeat (first | (with_reducible first | exact HB.out | apply below_alloc | apply pw_below_drewN | apply below_drew1 | refine below_set ?_ GE121.out | refine below_set ?_ GE122.out) | exact HB.out)) hb)
          clear BK121
          clear BK122
          clear HB
          have BK121 := n0_
          have BK122 := n1_
          have HB := n2_
          clear n0_ n1_ n2_
          (try clear hb)
          (try clear hb2)
          (try clear hk)
          (try clear hi)
          refine hK.out _ _ ⟨(blk_cell BK121.out 0).trans rfl, (blk_cell BK121.out 1).trans rfl, (blk_cell BK121.out 2).trans rfl, (blk_cell BK121.out 3).trans rfl⟩ (fun hHeld => ?_)
          clear hK K
          refine norm_ (a' := ?_) ?_ ?_
          rotate_left
          ·show Act.put _ (some 44) _ = _
           simp only [Act.put, List.setIfInBounds_toArray, List.set_cons_zero, List.set_cons_succ, i64_w, i32_w]
           rfl
          refine pure_ (i := 8) (N := some 45) (v := ?_) (a' := ?_) #[true, true, true, true, true, true, true, true, true, false, false, false] rfl rfl (any_of HT_.out (by kernel_rfl)) (fun _ _ _ h => h) (Or.inl ⟨by rfl, ?_⟩) ?_ ?_
          rotate_left
          ·intro w'
           go_simp
           with_reducible rfl
          rotate_left
          ·simp only [Act.put, List.setIfInBounds_toArray, List.set_cons_zero, List.set_cons_succ, i64_w, i32_w]
           rfl
          refine pure_ (i := 9) (N := some 46) (v := ?_) (a' := ?_) #[true, true, true, true, true, true, true, true, true, true, false, false] rfl rfl (any_of HT_.out (by kernel_rfl)) (fun _ _ _ h => h) (Or.inl ⟨by rfl, ?_⟩) ?_ ?_
          rotate_left
          ·intro w'
           go_simp
           with_reducible rfl
          rotate_left
          ·simp only [Act.put, List.setIfInBounds_toArray, List.set_cons_zero, List.set_cons_succ, i64_w, i32_w]
           rfl
          refine pure_ (i := 10) (N := some 47) (v := ?_) (a' := ?_) #[true, true, true, true, true, true, true, true, true, true, true, false] rfl rfl (any_of HT_.out (by kernel_rfl)) (fun _ _ _ h => h) (Or.inl ⟨by rfl, ?_⟩) ?_ ?_
          rotate_left
          ·intro w'
           go_simp
           with_reducible rfl
          rotate_left
          ·simp only [Act.put, List.setIfInBounds_toArray, List.set_cons_zero, List.set_cons_succ, i64_w, i32_w]
           rfl
          refine one_ (i := 11) (N := none) #[true, true, true, true, true, true, true, true, true, true, true, true] rfl rfl (one_of HT_.out (by kernel_rfl)) (by decide) (fun K hK => ?_)
          have hs42 : w41.cell? ⟨gb122, 0, none⟩ = some (.string (⟨#[]⟩ : ByteArray)) := (blk_cell BK122.out 0).trans rfl
          have hfs42 := blk_frozen BK122.out 0
          have hns42_0 := NB121_122.out
          have hms42_0 := NB122_121.out
          have hs43 : w41.cell? ⟨gb122, 1, none⟩ = some (.bool false) := (blk_cell BK122.out 1).trans rfl
          have hfs43 := blk_frozen BK122.out 1
          have hns43_0 := NB121_122.out
          have hms43_0 := NB122_121.out
          refine skip_ (w1 := ?_) (by rfl) rfl ?_ ?_
          rotate_left
          ·go_simp
           rfl
          refine hK.out _ _ ⟨((cell_far (p := ⟨gb122, _, none⟩) NB121_122.out _).trans (((cell_far (p := ⟨gb122, _, none⟩) NB121_122.out _).trans (hHeld.1)))), ((cell_far (p := ⟨gb122, _, none⟩) NB121_122.out _).trans (((cell_far (p := ⟨gb122, _, none⟩) NB121_122.out _).trans (hHeld.2.1)))), ((cell_far (p := ⟨gb122, _, none⟩) NB121_122.out _).trans (((cell_far (p := ⟨gb122, _, none⟩) NB121_122.out _).trans (hHeld.2.2.1)))), ((cell_far (p := ⟨gb122, _, none⟩) NB121_122.out _).trans (((cell_far (p := ⟨gb122, _, none⟩) NB121_122.out _).trans (hHeld.2.2.2))))⟩ (fun hHeld => ?_)
          clear hK K
          refine done_ (done_of HT_.out (by kernel_rfl)) ?_
          try go_wp2
          refine bodyPost_ret (results_cell_row rfl _ _ gb122 51 #[.string (((((⟨#[60, 60, 60, 60, 60, 60, 60, 10]⟩ : ByteArray) ++ t129) ++ (⟨#[61, 61, 61, 61, 61, 61, 61, 10]⟩ : ByteArray)) ++ t130) ++ (⟨#[62, 62, 62, 62, 62, 62, 62, 10]⟩ : ByteArray)), .bool true] (0, 0) _ rfl (by (with_reducible repeat (first | refine blk_drewN ?_ _ | refine blk_drew ?_ | refine blk_alloc ?_ _)); refine blk_put (cs := #[.string (((((⟨#[60, 60, 60, 60, 60, 60, 60, 10]⟩ : ByteArray) ++ t129) ++ (⟨#[61, 61, 61, 61, 61, 61, 61, 10]⟩ : ByteArray)) ++ t130) ++ (⟨#[62, 62, 62, 62, 62, 62, 62, 10]⟩ : ByteArray)), .bool false]) ?_ 1 _ rfl; (with_reducible repeat (first | refine blk_drewN ?_ _ | refine blk_drew ?_ | refine blk_alloc ?_ _)); refine blk_put (cs := #[.string (⟨#[]⟩ : ByteArray), .bool false]) ?_ 0 _ rfl; (with_reducible repeat (first | refine blk_drewN ?_ _ | refine blk_drew ?_ | refine blk_alloc ?_ _)); exact BK122.out) Tryd.underlying51 rfl (by kernel_rfl)) rfl ?_
          exact ⟨by first | rfl | (simp [errW_none, errW_some] <;> rfl) | (simp [*, errW_none, errW_some] <;> rfl), by repeat (first | (with_reducible first | exact HB.out | apply below_alloc | apply pw_below_drewN | apply below_drew1 | refine below_set ?_ GE121.out | refine below_set ?_ GE122.out) | exact HB.out)⟩
         ·rw [if_neg c36] at H
          exact absurd H (by simp)
        ·rw [if_neg c35] at H
         exact absurd H (by simp)
       ·rw [if_neg c33] at H
        exact absurd H (by simp)
      ·rw [if_neg c32] at H
       exact absurd H (by simp)
/-! ### merge_Merge: function 11 -/
def mgGo (k : Nat) : List S30 → List UInt8 → Int → Option (List UInt8 × Int)
 | [], o, t => some (o, t)
 | p :: l, o, t => (merge_judge.f k p.f0 p.f1 p.f2 p.f3).bind fun v => if o.length + v.1.size ≤ 1099511627776 ∧ 0 ≤ t ∧ t ≤ 1000000 then mgGo k l (o ++ v.1.data.toList) (if v.2 = true then t + 1 else t) else none
theorem mgGo.mono (k : Nat) : ∀ l o t, LeO (mgGo k l o t) (mgGo (k + 1) l o t)
 | [], _, _ => LeO.refl _
 | p :: l, o, t => LeO.bind (merge_judge.mono _ _ _ _ _) fun _ => LeO.ite (mgGo.mono k l _ _) (LeO.refl _)
def merge_Merge.f (k : Nat) (a0 : ByteArray) (a1 : ByteArray) (a2 : ByteArray) : Option (ByteArray × Int) :=
 (hunks_Cut.f k a0).bind fun x => (hunks_Cut.f k a1).bind fun y => (hunks_Cut.f k a2).bind fun z => (merge_Pieces.f k x y z).bind fun l => if l.length ≤ 1000 then (mgGo k l [] 0).map fun o => (⟨o.1.toArray⟩, o.2) else none
theorem mg_drop (l : List S30) (i : Nat) (h : i < l.length) : l.drop i = rd_T30 l (i : Int) :: l.drop (i + 1) := by
 rw [List.drop_eq_getElem_cons h]
 simp [rd_T30, List.getD_eq_getElem?_getD, List.getElem?_eq_getElem h]
/-- What holds between two pieces. -/
structure MgSt (w : World) (B : Nat) (Al : Option Addr) (l : List S30) (o : List UInt8) (W : World) : Prop where
 gt : w.heap.size < B
 le : B ≤ W.heap.size
 bx : ∃ p v, W.heap[w.heap.size]? = some (.cells #[p, v] 48 (0, 0)) ∧ (p = .pointer none ∨ p = .pointer (some ⟨w.heap.size, 0, none⟩)) ∧ W.ownsRow B 5 1 v (Lib.byteCells o).length (Lib.byteCells o)
 row : Kd.F k30 W (fun k => w.heap.size < k ∧ k < B) Al l.length l
 low : Below w.heap.size w W
theorem MgSt.below {w : World} {B : Nat} {Al : Option Addr} {l : List S30} {o : List UInt8} {W W' : World} (h : MgSt w B Al l o W) (hb : Below W.heap.size W W') : MgSt w B Al l o W' := by
 obtain ⟨p, v, h1, h2, h3⟩ := h.bx
 exact ⟨h.gt, Nat.le_trans h.le hb.size, ⟨p, v, blk_below h1 hb, h2, pw_own_below h3 hb⟩, Kd.F_below h.row hb, below_step h.low hb⟩
theorem mg_write {w : World} {B : Nat} {Al : Option Addr} {l : List S30} {o : List UInt8} {W : World} (h : MgSt w B Al l o W) (s : ByteArray) (g : Nat) (hg : g = w.heap.size) (hl : o.length + s.size ≤ 1099511627776) :
  Calls Tryd.prog 20 #[.pointer (some ⟨g, 0, none⟩), .string s] W fun e W' => e = .returned (.tuple #[.int .i64 s.size, .nilIface]) ∧ MgSt w B Al l (o ++ s.data.toList) W' ∧ W.heap.size ≤ W'.heap.size ∧ ∀ (k : Nat) cs t, t ≠ 5 → k ≠ w.heap.size → W.heap[k]? = some (.cells cs t (0, 0)) → W'.heap[k]? = some (.cells cs t (0, 0)) := by
 subst hg
 obtain ⟨p, v, h1, h2, h3⟩ := h.bx
 refine (bl2_text B w.heap.size (Lib.byteCells o) s p v W h1 h2 h3 h.gt (by rw [Lib.byteCells_length]; omega) h.le).mono ?_
 rintro e W' ⟨rfl, v', k1, k2, k3, k4⟩
 have hv : ∀ k, some k = v.ownBlock → B ≤ k := fun k hk => own_base h3 k hk.symm
 refine ⟨rfl, ⟨h.gt, Nat.le_trans h.le k3.size, ⟨_, v', k1, .inr rfl, by rw [Lib.byteCells_append]; exact k2⟩, Kd.F_step h.row (fun k hk hlt => k4 k hlt (by omega) (fun e => by have := hv k e; omega)), h.low.trans k3⟩, k3.size, ?_⟩
 intro k cs t ht hk hc
 refine (k4 k (blk_lt hc) hk (fun e => ?_)).trans hc
 obtain ⟨cs2, hc2⟩ := own_typed h3 k e.symm
 rw [hc2] at hc
 cases hc
 exact ht rfl
set_option maxHeartbeats 16000000 in
set_option maxRecDepth 100000 in
theorem merge_Merge.calls (k : Nat) (a0 : ByteArray) (a1 : ByteArray) (a2 : ByteArray) (r1 : ByteArray) (r2 : Int) (w : World) (h : merge_Merge.f k a0 a1 a2 = some (r1, r2)) :
  Calls Tryd.prog 11 #[.string a0, .string a1, .string a2] w fun e w' => e = .returned (.tuple #[.string r1, .int .i64 r2]) ∧ Below w.heap.size w w' := by
 have huP := Tryd.underlying30
 have huV := Tryd.underlying51
 unfold merge_Merge.f at h
 obtain ⟨x, hx, h⟩ := Option.bind_eq_some_iff.mp h
 obtain ⟨y, hy, h⟩ := Option.bind_eq_some_iff.mp h
 obtain ⟨z, hz, h⟩ := Option.bind_eq_some_iff.mp h
 obtain ⟨l, hl, h⟩ := Option.bind_eq_some_iff.mp h
 split at h
 rotate_left
 ·cases h
 rename_i hll
 obtain ⟨⟨o1, t1⟩, hgo, he⟩ := Option.map_eq_some_iff.mp h
 simp only [Prod.mk.injEq] at he
 obtain ⟨rfl, rfl⟩ := he
 have HX := Aside0.mk hx
 have HY := Aside0.mk hy
 have HZ := Aside0.mk hz
 have HL := Aside0.mk hl
 have HLL := Aside0.mk hll
 have HGO := Aside0.mk hgo
 have KBx := Aside0.mk (heap_alloc_new w (.cells #[.pointer none, .slice none 0 0] 48))
 have KB0 := Aside0.mk (below_alloc (Below.refl w.heap.size w) (.cells #[.pointer none, .slice none 0 0] 48))
 have KS0 := Aside0.mk (show (w.alloc (.cells #[.pointer none, .slice none 0 0] 48)).heap.size = w.heap.size + 1 by simp)
 clear h hx hy hz hl hll hgo
 go_enter Tryd.func11, Tryd.ntmps11
 go_upto_region 3 with fail
 obtain ⟨W0, hW0⟩ : ∃ Z : World, w.alloc (.cells #[.pointer none, .slice none 0 0] 48) = Z := ⟨_, rfl⟩
 rw [hW0] at KBx KB0 KS0 ⊢
 clear hW0
 go_wp2_with (first
  | (go_at_call 18; (with_reducible refine (hunks_Cut.calls k a0 x _ HX.out).mono ?_); rintro e W1 ⟨v1, rfl, hR, hb⟩; obtain ⟨A1, c1, rfl⟩ := Kd.R_slice hR; have HR1 := Aside0.mk hR; have HB1 := Aside0.mk hb; clear hR hb HX)
  | (go_at_call 18; (with_reducible refine (hunks_Cut.calls k a1 y _ HY.out).mono ?_); rintro e W2 ⟨v2, rfl, hR, hb⟩; obtain ⟨A2, c2, rfl⟩ := Kd.R_slice hR; have HR2 := Aside0.mk hR; have HB2 := Aside0.mk hb; clear hR hb HY)
  | (go_at_call 18; (with_reducible refine (hunks_Cut.calls k a2 z _ HZ.out).mono ?_); rintro e W3 ⟨v3, rfl, hR, hb⟩; obtain ⟨A3, c3, rfl⟩ := Kd.R_slice hR; have HR3 := Aside0.mk hR; have HB3 := Aside0.mk hb; clear hR hb HZ)
  | (go_at_call 8; (with_reducible refine (merge_Pieces.calls k (fun k_ => some k_ = (Value.slice A1 x.length c1).ownBlock) A1 c1 x (fun k_ => some k_ = (Value.slice A2 y.length c2).ownBlock) A2 c2 y (fun k_ => some k_ = (Value.slice A3 z.length c3).ownBlock) A3 c3 z l _ (Kd.V_below (Kd.V_below (Kd.R_V (Kd.R_tight rfl HR1.out)) HB2.out) HB3.out) (Kd.V_below (Kd.R_V (Kd.R_tight rfl HR2.out)) HB3.out) (Kd.R_V (Kd.R_tight rfl HR3.out)) HL.out).mono ?_); rintro e W4 ⟨v4, rfl, hN, hb⟩; obtain ⟨A4, c4, rfl⟩ := Kd.N_slice hN; have HN := Aside0.mk hN; have HB4 := Aside0.mk hb; clear hN hb))
 have HM : Aside0 (MgSt w W4.heap.size A4 l [] W4) := ⟨by
  have s1 := HB1.out.size
  have s2 := HB2.out.size
  have s3 := HB3.out.size
  have s4 := HB4.out.size
  have s0 := KS0.out
  have b14 := (below_step (below_step (below_step HB1.out HB2.out) HB3.out) HB4.out)
  refine ⟨by omega, Nat.le_refl _, ⟨_, _, blk_below KBx.out b14, .inl rfl, own_nil _ _ _ _⟩, Kd.F_mono (Kd.F_bound (Kd.N_F HN.out)) (fun q hq => ⟨?_, hq.2⟩), below_step KB0.out b14⟩
  rcases hq.1 with (h | h | h) | h
  ·have := Kd.R_base HR1.out q h.symm; omega
  ·have := Kd.R_base HR2.out q h.symm; omega
  ·have := Kd.R_base HR3.out q h.symm; omega
  ·omega⟩
 clear HR1 HR2 HR3 HB1 HB2 HB3 HB4 HN KBx KB0 KS0 HL
 obtain ⟨B, hB⟩ : ∃ B, W4.heap.size = B := ⟨_, rfl⟩
 rw [hB] at HM
 clear hB
 go_loopg [9, 21] l.length (fun kq v9 v21 wx => ∃ (i : Nat) (oq : List UInt8) (t : Int), v9 = .int .i64 t ∧ v21 = .int .i64 (i : Int) ∧ Aside0 (i + kq = l.length) ∧ Aside0 (mgGo k (l.drop i) oq t = some (o1, t1)) ∧ Aside0 (MgSt w B A4 l oq wx))
 case atStart => exact ⟨0, [], 0, rfl, rfl, ⟨Nat.zero_add _⟩, HGO, HM⟩
 case round =>
  clear HGO HM
  obtain ⟨i, oq, t, rfl, rfl, HI, HQ, HM⟩ := hrel
  cases gk with
  | zero =>
   obtain rfl : i = l.length := by have := HI.out; omega
   have c0 : decide ((l.length : Int) < (l.length : Int)) = false := decide_eq_false (by omega)
   have hq := HQ.out
   rw [List.drop_length, mgGo] at hq
   simp only [Option.some.injEq, Prod.mk.injEq] at hq
   obtain ⟨rfl, rfl⟩ := hq
   clear HQ
   have HIB : Aside0 (Lib.IsBuilder 48 5 w.heap.size w.heap.size (Lib.byteCells oq) wr) := ⟨by
    obtain ⟨p, v, h1, h2, h3⟩ := HM.out.bx
    have hg := HM.out.gt
    rcases h2 with rfl | rfl
    ·exact .inl ⟨Nat.le_refl _, v, h1, own_weaken h3 (by omega), fun e => by have := own_base h3 _ e; omega⟩
    ·exact .inr ⟨Nat.le_refl _, v, h1, own_weaken h3 (by omega), fun e => by have := own_base h3 _ e; omega⟩⟩
   go_wp2_with (go_at_call 21; refine (Tryd.Builder_String_any w.heap.size w.heap.size oq _ HIB.out HM.out.low.size).mono ?_; rintro e w7 ⟨rfl, hb⟩; have KE := Aside0.mk (HM.out.low.trans hb); clear hb)
   go_ret2
   exact ⟨rfl, KE.out⟩
  | succ k1 =>
   have hi : i < l.length := by have := HI.out; omega
   have c0 : decide ((i : Int) < (l.length : Int)) = true := decide_eq_true (by omega)
   have hq := HQ.out
   rw [mg_drop l i hi, mgGo] at hq
   have p0 : (0 : Int) ≤ (i : Int) := by omega
   have q0 : (i : Int) < (l.length : Int) := by omega
   obtain ⟨ad, A0, c0_, A1, c1, A2, c2, e0, hy0, hy1, hy2, hy3, l0, g0, l1, g1, l2, g2⟩ := at_T30 (Kd.F_now HM.out.row) (i : Int) p0 q0
   cases e0
   obtain ⟨⟨f0, f1, f2, f3⟩, hx⟩ : ∃ x, rd_T30 l (i : Int) = x := ⟨_, rfl⟩
   rw [hx] at hq hy0 hy1 hy2 hy3 l0 g0 l1 g1 l2 g2
   dsimp only at hq hy0 hy1 hy2 hy3 l0 g0 l1 g1 l2 g2
   simp only [Int.toNat_natCast] at hy0 hy1 hy2 hy3
   clear hx
   obtain ⟨⟨v, b⟩, hv, hq⟩ := Option.bind_eq_some_iff.mp hq
   dsimp only at hq
   split at hq
   rotate_left
   ·cases hq
   rename_i hbd
   have HV := Aside0.mk hv
   have HBD := Aside0.mk hbd
   have HQ2 := Aside0.mk hq
   have G0 := Aside0.mk g0
   have G1 := Aside0.mk g1
   have G2 := Aside0.mk g2
   have L0 := Aside0.mk l0
   have L1 := Aside0.mk l1
   have L2 := Aside0.mk l2
   clear hv hq hbd HQ g0 g1 g2 l0 l1 l2
   obtain ⟨n0, hn0⟩ : ∃ n, f0.length = n := ⟨_, rfl⟩
   obtain ⟨n1, hn1⟩ : ∃ n, f1.length = n := ⟨_, rfl⟩
   obtain ⟨n2, hn2⟩ : ∃ n, f2.length = n := ⟨_, rfl⟩
   have HN0 := Aside0.mk hn0
   have HN1 := Aside0.mk hn1
   have HN2 := Aside0.mk hn2
   rw [hn0] at hy0
   rw [hn1] at hy1
   rw [hn2] at hy2
   clear hn0 hn1 hn2
   go_upto_region 6 with fail
   have KT := Aside0.mk (heap_alloc_new wr (.cells #[.slice A0 n0 c0_, .slice A1 n1 c1, .slice A2 n2 c2, .bool f3] 30))
   have HM1 := Aside0.mk (HM.out.below (below_alloc (Below.refl wr.heap.size wr) (.cells #[.slice A0 n0 c0_, .slice A1 n1 c1, .slice A2 n2 c2, .bool f3] 30)))
   have G01 := Aside0.mk (Kd.C_below G0.out (below_alloc (Below.refl wr.heap.size wr) (.cells #[.slice A0 n0 c0_, .slice A1 n1 c1, .slice A2 n2 c2, .bool f3] 30)))
   have G11 := Aside0.mk (Kd.C_below G1.out (below_alloc (Below.refl wr.heap.size wr) (.cells #[.slice A0 n0 c0_, .slice A1 n1 c1, .slice A2 n2 c2, .bool f3] 30)))
   have G21 := Aside0.mk (Kd.C_below G2.out (below_alloc (Below.refl wr.heap.size wr) (.cells #[.slice A0 n0 c0_, .slice A1 n1 c1, .slice A2 n2 c2, .bool f3] 30)))
   obtain ⟨Wc, hWc⟩ : ∃ Z : World, wr.alloc (.cells #[.slice A0 n0 c0_, .slice A1 n1 c1, .slice A2 n2 c2, .bool f3] 30) = Z := ⟨_, rfl⟩
   rw [hWc] at KT HM1 G01 G11 G21 ⊢
   obtain ⟨gt, hgt⟩ : ∃ g, wr.heap.size = g := ⟨_, rfl⟩
   rw [hgt] at KT ⊢
   clear hWc hgt HM G0 G1 G2 hy0 hy1 hy2 hy3
   have t0 := (blk_cell KT.out 0).trans rfl
   have t1 := (blk_cell KT.out 1).trans rfl
   have t2 := (blk_cell KT.out 2).trans rfl
   have t3 := (blk_cell KT.out 3).trans rfl
   have hj : Calls Tryd.prog 19 #[.agg #[.slice A0 n0 c0_, .slice A1 n1 c1, .slice A2 n2 c2, .bool f3]] Wc fun e w' => e = .returned (.agg #[.string v, .bool b]) ∧ Below Wc.heap.size Wc w' := by
    have h_ := merge_judge.calls k A0 c0_ f0 A1 c1 f1 A2 c2 f2 f3 v b Wc G01.out L0.out G11.out L1.out G21.out L2.out HV.out
    rw [HN0.out, HN1.out, HN2.out] at h_
    exact h_
   have HJ := Aside0.mk hj
   clear hj
   go_upto_region 7 with (go_at_call 19; (with_reducible refine HJ.out.mono ?_); rintro e W5 ⟨rfl, hb⟩; have HM5 := Aside0.mk (HM1.out.below hb); clear hb)
   clear t0 t1 t2 t3 KT HM1 G01 G11 G21
   have KV := Aside0.mk (heap_alloc_new W5 (.cells #[.string v, .bool b] 51))
   have HM6 := Aside0.mk (HM5.out.below (below_alloc (Below.refl W5.heap.size W5) (.cells #[.string v, .bool b] 51)))
   obtain ⟨W6, hW6⟩ : ∃ Z : World, W5.alloc (.cells #[.string v, .bool b] 51) = Z := ⟨_, rfl⟩
   rw [hW6] at KV HM6 ⊢
   have Hgv := Aside0.mk (show W5.heap.size ≠ w.heap.size by have := HM5.out.gt; have := HM5.out.le; omega)
   obtain ⟨gv, hgv⟩ : ∃ g, W5.heap.size = g := ⟨_, rfl⟩
   rw [hgv] at KV Hgv ⊢
   clear hW6 hgv HM5
   have s0 := (blk_cell KV.out 0).trans rfl
   go_upto_region 8 with (go_at_call 20; refine (mg_write HM6.out v _ rfl HBD.out.1).mono ?_; rintro e W7 ⟨rfl, hM, hsz, hk⟩; have HM7 := Aside0.mk hM; have KV7 := Aside0.mk (hk gv _ 51 (by decide) Hgv.out KV.out); clear hM hsz hk)
   clear s0
   have s1 := (blk_cell KV7.out 1).trans rfl
   have ws : wrap64 ((i : Int) + 1) = ((i + 1 : Nat) : Int) := by
    have := HI.out
    have := HLL.out
    unfold wrap64
    omega
   have wt : wrap64 (t + 1) = t + 1 := by
    have := HBD.out
    unfold wrap64
    omega
   cases b with
   | true =>
    go_wp2_with fail
    go_roundg k1
    case measure => omega
    case rel => exact ⟨i + 1, _, t + 1, by first | rfl | rw [wt], by first | rfl | rw [ws], ⟨by have := HI.out; omega⟩, HQ2, HM7⟩
   | false =>
    go_wp2_with fail
    go_roundg k1
    case measure => omega
    case rel => exact ⟨i + 1, _, t, rfl, by first | rfl | rw [ws], ⟨by have := HI.out; omega⟩, HQ2, HM7⟩
/-! ### styluslaw52_lives: function 7 -/
def styluslaw52_lives.f : Option Bool := some true
set_option maxRecDepth 100000 in
theorem lives52_val : merge_Merge.f 40 (⟨#[97, 10]⟩ : ByteArray) (⟨#[98, 10]⟩ : ByteArray) (⟨#[99, 10]⟩ : ByteArray) = some ((⟨#[60, 60, 60, 60, 60, 60, 60, 10, 98, 10, 61, 61, 61, 61, 61, 61, 61, 10, 99, 10, 62, 62, 62, 62, 62, 62, 62, 10]⟩ : ByteArray), 1) := by kernel_rfl
theorem lives52_call (w : World) : Calls Tryd.prog 11 #[.string ⟨#[97, 10]⟩, .string ⟨#[98, 10]⟩, .string ⟨#[99, 10]⟩] w fun e w' => e = .returned (.tuple #[.string ⟨#[60, 60, 60, 60, 60, 60, 60, 10, 98, 10, 61, 61, 61, 61, 61, 61, 61, 10, 99, 10, 62, 62, 62, 62, 62, 62, 62, 10]⟩, .int .i64 1]) ∧ Below w.heap.size w w' :=
 merge_Merge.calls 40 _ _ _ _ _ w lives52_val
set_option maxHeartbeats 8000000 in
set_option maxRecDepth 100000 in
theorem styluslaw52_lives.calls (r : Bool) (w : World) (h : styluslaw52_lives.f = some r) :
  Calls Tryd.prog 7 #[] w fun e w' => e = .returned (.bool r) ∧ Below w.heap.size w w' := by
 obtain rfl := Option.some.inj h
 clear h
 go_enter Tryd.func7, Tryd.ntmps7
 go_wp2_with (go_at_call 11; (with_reducible refine (lives52_call _).mono ?_); rintro e w2 ⟨rfl, hb⟩; have KB := Aside0.mk hb; clear hb)
 go_ret
 exact ⟨rfl, KB.out⟩
end Go.Proofs.YtkbhnkagiaghnaaDoor.P
