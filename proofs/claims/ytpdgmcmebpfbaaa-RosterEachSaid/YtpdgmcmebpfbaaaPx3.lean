import Derived.Test.YtpdgmcmebpfbaaaPx0
import Derived.LoopIn
import Derived.LoopNIn
import Derived.Maps.Ext
import Derived.Maps.OwnIn
import Derived.Maps.OwnSet
import Derived.OwnWalkIn
import Derived.RangeFuncBound
import Derived.RangeFuncCalls
import Derived.RangeFuncLeaves
import Derived.RangeFuncNested
import Derived.Shelf.Abstract
import Derived.Shelf.RegionOpen
import Derived.TacticsInMore
import Derived.Test.YtpdgmcmebpfbaaaShelf
import Derived.WalkKit
import Derived.Test.YtpdgmcmebpfbaaaPx2
namespace Go.Proofs.Ytpdgmcmebpfbaaa.P
open Go.RowKit Go.Proofs.YtpdgmcmebpfbaaaW.PrintWords Go.Proofs.YtpdgmcmebpfbaaaW.PrintLast Go.Proofs.YtpdgmcmebpfbaaaW.PrintMore
attribute [local go_sem] max2_int min2_int max_two min_two max_three min_three max_four min_four   -- for this text's walks alone
set_option linter.unusedVariables false
set_option linter.unusedSimpArgs false
/-! ### roster_titles: function 20 -/
attribute [local go_sem] Oper.semAt_some
abbrev TT := ByteArray × Int × Int × Int × ByteArray
abbrev TT.val (t : TT) : Value := .agg #[.int .i64 t.2.1, .int .i64 t.2.2.1, .int .i64 t.2.2.2.1, .string t.2.2.2.2]
def tt_encs (x : TT) : Array Value := #[.string x.1, .agg #[.int .i64 x.2.1, .int .i64 x.2.2.1, .int .i64 x.2.2.2.1, .string x.2.2.2.2]]
/-- All names with what they are. -/
def titlesOf (k : Nat) : List ByteArray → Option (List TT)
 | [] => some []
 | s :: r => (title_Read.f k s).bind fun t => (titlesOf k r).bind fun ts => some ((s, t) :: ts)
theorem titlesOf_mono (k : Nat) (l : List ByteArray) : LeO (titlesOf k l) (titlesOf (k + 1) l) := by
 induction l with
 | nil => exact LeO.refl _
 | cons s r ih => exact LeO.bind (title_Read.mono _ k) fun _ => LeO.bind ih fun _ => LeO.refl _
theorem titlesOf_length {k : Nat} {l : List ByteArray} {ts : List TT} (h : titlesOf k l = some ts) : ts.length = l.length := by
 induction l generalizing ts with
 | nil => obtain rfl := Option.some.inj h; rfl
 | cons s r ih =>
  obtain ⟨t, _, h⟩ := Option.bind_eq_some_iff.mp h
  obtain ⟨ts', h2, h⟩ := Option.bind_eq_some_iff.mp h
  obtain rfl := Option.some.inj h
  simp [ih h2]
theorem titlesOf_at {k : Nat} {l : List ByteArray} {ts : List TT} (h : titlesOf k l = some ts) (i : Nat) (hi : i < ts.length) : ∃ hl : i < l.length, ts[i].1 = l[i] ∧ title_Read.f k l[i] = some ts[i].2 := by
 induction l generalizing ts i with
 | nil => obtain rfl := Option.some.inj h; simp at hi
 | cons s r ih =>
  obtain ⟨t, h1, h⟩ := Option.bind_eq_some_iff.mp h
  obtain ⟨ts', h2, h⟩ := Option.bind_eq_some_iff.mp h
  obtain rfl := Option.some.inj h
  cases i with
  | zero => exact ⟨by simp, rfl, h1⟩
  | succ i =>
   simp only [List.length_cons] at hi
   obtain ⟨hl, e1, e2⟩ := ih h2 i (by omega)
   exact ⟨by simp; omega, e1, e2⟩
theorem tt_abides {J : List TT → World → Prop} {B : Nat} {W W' : World} {pre : List TT} (hJ : AbidesFrom B J) (h : J pre W) (hb : Below W.heap.size W W') : J pre W' :=
 hJ _ _ _ none h ⟨hb.os, hb.tape, hb.output, hb.size, fun i hi _ => hb.block i hi⟩ (fun r e => by cases e)
theorem at_Txt {w : World} {A : Option Addr} {n : Nat} {xs : List ByteArray} (h : Kd.C Kd.string w A n xs) (i : Int) (h0 : 0 ≤ i) (h1 : i < n) : ∃ ad, A = some ad ∧ w.cell? (ad.add i.toNat) = some (.string (xs.getD i.toNat ⟨#[]⟩)) := by
 obtain ⟨ad, c, e, _, hK, hc0⟩ := Kd.C_get h ⟨#[]⟩ i h0 h1
 have hc : ∀ j u, c[j]? = some u → w.cell? (ad.add (i.toNat * 1 + j)) = some u := hc0
 have e1 : c = [.string (xs.getD i.toNat ⟨#[]⟩)] := hK
 subst e1
 exact ⟨ad, e, by have hq := hc 0 _ rfl; rwa [Nat.mul_one, Nat.add_zero] at hq⟩
theorem tt_take {ts : List TT} (i : Nat) (h : i < ts.length) : ts.take (i + 1) = ts.take i ++ [ts[i]] := List.take_succ_eq_append_getElem h
set_option maxHeartbeats 8000000 in
set_option maxRecDepth 100000 in
theorem titles_in (k : Nat) (A : Option Addr) (c : Nat) (names : List ByteArray) (ts : List TT) (hts : titlesOf k names = some ts) (hlen : names.length ≤ 1000000) (w0 : World) (hC : Kd.C Kd.string w0 A names.length names) (b1 l : Nat) (J Jx : List TT → World → Prop) (W : World) (hW : Below w0.heap.size w0 W) (hJ : AbidesFrom W.heap.size J) (hJx : AbidesFrom W.heap.size Jx)
  (hY : ∀ i (hi : i < ts.length) W1, J (ts.take i) W1 → YieldAt Fence.wide 1 Try.prog l (tt_encs ts[i]) W1 fun e W' => (e = .returned (.bool true) ∧ J (ts.take i ++ [ts[i]]) W' ∧ Below w0.heap.size W1 W') ∨ (e = .returned (.bool false) ∧ Jx (ts.take i ++ [ts[i]]) W'))
  (hb1 : W.cell? ⟨b1, 0, none⟩ = some (.slice A names.length c)) (h0 : J [] W) :
  CallsIn Fence.wide 2 Try.prog 34 #[.func (.yield l) #[] #[], .pointer (some ⟨b1, 0, none⟩)] W fun e W' => (∃ v, e = .returned v) ∧ ((∃ xs, xs = ts ∧ J xs W') ∨ (∃ pre, (∃ i, i ≤ ts.length ∧ pre = ts.take i) ∧ Jx pre W')) := by
 have hl := titlesOf_length hts
 refine callsIn_of_wp Try.func34 rfl trivial ?_ rfl
 simp only [Try.ntmps34, List.size_toArray, List.length_cons, List.length_nil, Nat.reduceAdd, Nat.reduceSub, Array.replicate_succ, Array.replicate_zero, List.push_toArray, List.append_toArray, List.nil_append, List.cons_append]
 gi_wp2_with fail
 have HC := Aside0.mk hC
 have HT := Aside0.mk hts
 have HL := Aside0.mk hl
 have HJ := Aside0.mk hJ
 have HY := Aside0.mk hY
 have H0 := Aside0.mk h0
 have HW := Aside0.mk hW
 clear hC hts hl hJ hJx hY h0 hW hb1
 refine wpIn_wide.2 ?_
 go_loopw [7] (fun x wr => ∃ i : Nat, x = .int .i64 i ∧ i ≤ names.length ∧ Aside0 (J (ts.take i) wr) ∧ Aside0 (Below w0.heap.size w0 wr)) (fun x _ => names.length - (intOf x).toNat)
 case atStart => exact ⟨0, rfl, Nat.zero_le _, by rw [List.take_zero]; exact H0, HW⟩
 case round =>
  obtain ⟨i, rfl, hi, KJ, KB⟩ := hrel
  by_cases q : i < names.length
  ·have p0 : (0 : Int) ≤ (i : Int) := Int.natCast_nonneg _
   have q0 : (i : Int) < (names.length : Int) := by omega
   have hit : i < ts.length := by rw [HL.out]; exact q
   obtain ⟨ad0, e0, hx0⟩ := at_Txt (Kd.C_below HC.out KB.out) (i : Int) p0 q0
   cases e0
   simp only [Int.toNat_natCast] at hx0
   obtain ⟨_, e1, e2⟩ := titlesOf_at HT.out i hit
   have e3 : names.getD i ⟨#[]⟩ = ts[i].1 := by rw [e1]; simp [List.getD_eq_getElem?_getD, List.getElem?_eq_getElem q]
   rw [e3] at hx0
   rw [← e1] at e2
   have HTK := Aside0.mk (tt_take i hit)
   have HYi := Aside0.mk (HY.out i hit)
   clear e1 e3
   generalize ts[i] = t at *
   obtain ⟨s, r1, r2, r3, r4⟩ := t
   dsimp only at hx0 e2
   have E2 := Aside0.mk e2
   clear e2
   go_upto_region 3 with fail
   go_cut [16] (fun v16 wx => (v16 = .bool false ∧ Aside0 (J (ts.take i ++ [(s, r1, r2, r3, r4)]) wx) ∧ Aside0 (Below w0.heap.size w0 wx)) ∨ (v16 = .bool true ∧ Aside0 (Jx (ts.take i ++ [(s, r1, r2, r3, r4)]) wx)))
   case first =>
    refine (wpIn_wide (n := 2)).1 ?_
    have hf35 : Fence.wide.fn 35 := trivial
    gi_wp2_with (gi_at_call 35; refine (callsIn_wide.2 (title_Read.calls k s r1 r2 r3 r4 _ E2.out)).mono ?_; rintro e w3 ⟨rfl, hb3⟩; obtain ⟨fn, tmps, assign, body, hy, hR⟩ := HYi.out w3 (tt_abides HJ.out KJ.out hb3); have KB3 := Aside0.mk (below_step KB.out hb3); simp only [tt_encs] at hy; clear hb3)
    refine hR.mono ?_
    rintro e W' (⟨rfl, hJ', hk⟩ | ⟨rfl, hJx'⟩)
    ·gi_wp2_with fail
     go_meet
     exact .inl ⟨rfl, ⟨hJ'⟩, ⟨KB3.out.trans hk⟩⟩
    ·gi_wp2_with fail
     go_meet
     exact .inr ⟨rfl, ⟨hJx'⟩⟩
   rcases hcut with ⟨rfl, KJ2, KB2⟩ | ⟨rfl, KJX⟩
   ·go_wp2_with fail
    go_roundw
    case rel => exact ⟨i + 1, by go_num, by omega, ⟨by rw [HTK.out]; exact KJ2.out⟩, KB2⟩
    case measure => simp [intOf]; omega
   ·go_wp2_with fail
    refine bodyPost_ret (results_none rfl _ _ _) rfl ?_
    exact ⟨⟨_, rfl⟩, .inr ⟨_, ⟨i + 1, by rw [HL.out]; omega, HTK.out.symm⟩, KJX.out⟩⟩
  ·obtain rfl : i = names.length := by omega
   go_wp2_with fail
   refine bodyPost_end (results_none rfl _ _ _) rfl ?_
   exact ⟨⟨_, rfl⟩, .inl ⟨_, rfl, by have := KJ.out; rwa [← HL.out, List.take_length] at this⟩⟩
theorem titles_stops (k : Nat) (A : Option Addr) (c : Nat) (names : List ByteArray) (ts : List TT) (hts : titlesOf k names = some ts) (hlen : names.length ≤ 1000000) (w0 : World) (hC : Kd.C Kd.string w0 A names.length names) (b1 : Nat) (w1 : World) (hw1 : Below w0.heap.size w0 w1) (hb1 : w1.heap[b1]? = some (.cells #[.slice A names.length c] 22 (0, 0))) :
  SeqStopsK Fence.wide 2 Try.prog 34 #[.pointer (some ⟨b1, 0, none⟩)] tt_encs (Below w0.heap.size) (fun xs => xs = ts) (fun pre => ∃ i, i ≤ ts.length ∧ pre = ts.take i) names.length w1 := by
 intro l J Jx W hW hJ hJx hY h0
 exact titles_in k A c names ts hts hlen w0 hC b1 l J Jx W (below_step hw1 hW) hJ hJx (fun i hi W1 hj => hY _ _ W1 hj (by rw [List.length_take, ← titlesOf_length hts]; omega)) ((blk_cell (blk_below hb1 hW) 0).trans rfl) h0
/-- The same, of elements of which a law is known. -/
theorem titles_stopsP (k : Nat) (A : Option Addr) (c : Nat) (names : List ByteArray) (ts : List TT) (hts : titlesOf k names = some ts) (hlen : names.length ≤ 1000000) (p : TT → Prop) (hp : ∀ t ∈ ts, p t) (w0 : World) (hC : Kd.C Kd.string w0 A names.length names) (b1 : Nat) (w1 : World) (hw1 : Below w0.heap.size w0 w1) (hb1 : w1.heap[b1]? = some (.cells #[.slice A names.length c] 22 (0, 0))) :
  SeqStopsK Fence.wide 2 Try.prog 34 #[.pointer (some ⟨b1, 0, none⟩)] (fun x : {t : TT // p t} => tt_encs x.1) (Below w0.heap.size) (fun xs => xs.map Subtype.val = ts) (fun pre => ∃ i, pre.map Subtype.val = ts.take i) names.length w1 := by
 intro l J Jx W hW hJ hJx hY h0
 have hab : ∀ {J : List {t : TT // p t} → World → Prop}, AbidesFrom W.heap.size J → AbidesFrom W.heap.size (fun pre W => ∃ preS : List {t : TT // p t}, preS.map Subtype.val = pre ∧ J preS W) :=
  fun hJ s W1 W2 row hs hg hr => by
   obtain ⟨preS, e, hs⟩ := hs
   exact ⟨preS, e, hJ preS W1 W2 row hs hg hr⟩
 refine (titles_in k A c names ts hts hlen w0 hC b1 l (fun pre W => ∃ preS : List {t : TT // p t}, preS.map Subtype.val = pre ∧ J preS W) (fun pre W => ∃ preS : List {t : TT // p t}, preS.map Subtype.val = pre ∧ Jx preS W) W (below_step hw1 hW) (hab hJ) (hab hJx) (fun i hi W1 hj => ?_) ((blk_cell (blk_below hb1 hW) 0).trans rfl) ⟨[], rfl, h0⟩).mono ?_
 ·obtain ⟨preS, e, hj⟩ := hj
  have hlt : preS.length < names.length := by
   have := congrArg List.length e
   rw [List.length_map, List.length_take] at this
   have := titlesOf_length hts
   omega
  obtain ⟨fn, tmps, assign, body, hy, hR⟩ := hY preS ⟨ts[i], hp _ (List.getElem_mem hi)⟩ W1 hj hlt
  refine ⟨fn, tmps, assign, body, hy, hR.mono ?_⟩
  rintro e2 W' (⟨rfl, h1, h2⟩ | ⟨rfl, h1⟩)
  ·exact .inl ⟨rfl, ⟨_, by rw [List.map_append, e]; rfl, h1⟩, h2⟩
  ·exact .inr ⟨rfl, ⟨_, by rw [List.map_append, e]; rfl, h1⟩⟩
 ·rintro e W' ⟨hv, ⟨xs, hx, preS, e1, h1⟩ | ⟨pre, ⟨i, _, hx⟩, preS, e1, h1⟩⟩
  ·exact ⟨hv, .inl ⟨preS, e1.trans hx, h1⟩⟩
  ·exact ⟨hv, .inr ⟨preS, ⟨i, e1.trans hx⟩, h1⟩⟩
theorem titles_mk (A : Option Addr) (n c : Nat) (w : World) :
  Calls Try.prog 20 #[.slice A n c] w fun e w' => e = .returned (.func (.func 34) #[] #[.pointer (some ⟨w.heap.size, 0, none⟩)]) ∧ w' = w.alloc (.cells #[.slice A n c] 22) := by
 have hmf : ∀ (fn : Fn) (first cap : Array Value) (w : World), (Instr.makeFunc fn first cap).run Try.prog w = .ok (.func fn first cap) w := fun _ _ _ _ => rfl
 go_enter Try.func20, Try.ntmps20
 go_wp2
 go_ret
 exact ⟨rfl, rfl⟩
/-! ### roster_ours: function 26 -/
def roster_ours.f (a0_0 : Int) (a0_1 : Int) (a0_2 : Int) (a0_3 : ByteArray) : Option (Bool) := if a0_0 = 1 then (some true) else (some (a0_0 == 2))
set_option maxHeartbeats 8000000 in
set_option maxRecDepth 100000 in
theorem roster_ours.calls (a0_0 : Int) (a0_1 : Int) (a0_2 : Int) (a0_3 : ByteArray) (r : Bool) (w : World) (h : roster_ours.f a0_0 a0_1 a0_2 a0_3 = some r) :
  Calls Try.prog 26 #[.agg #[.int .i64 a0_0, .int .i64 a0_1, .int .i64 a0_2, .string a0_3]] w fun e w' => e = .returned (.bool r) ∧ Below w.heap.size w w' := by
 have hu41 := Try.underlying41
 have HB := Aside0.mk (Below.refl w.heap.size w)
 have H : (if a0_0 = 1 then (some true) else (some (a0_0 == 2))) = some r := h
 clear h
 by_cases c2 : a0_0 = 1
 ·rw [if_pos c2] at H
  have c2b0 : (a0_0 == 1) = true := beq_iff_eq.mpr c2
  have c2b1 : (a0_0 != 1) = false := bne_eq_false_iff_eq.mpr c2
  clear c2
  obtain rfl := Option.some.inj H
  go_enter Try.func26, Try.ntmps26
  go_wp2_with (first | ((with_reducible refine gate_dst (N := 1) rfl ?_); refine box_event ?hg (N := 1) ?hd (cs := #[.int .i64 a0_0, .int .i64 a0_1, .int .i64 a0_2, .string a0_3]) (t := 41) ?hr ?_; (case hd => rfl); (case hg => rfl); (case hr => first | (go_simp; done) | (go_simp; rfl)); intro gb145 hg w3 hbox hb; have n0_ := Aside0.mk (below_step (by repeat (first | (with_reducible first | exact HB.out | apply below_alloc | apply pw_below_drewN | apply below_drew1) | exact HB.out)) hb); have n1_ := Aside0.mk (hbox); have n2_ := Aside0.mk ((by rw [hg]; exact (below_size (by repeat (first | (with_reducible first | exact HB.out | apply below_alloc | apply pw_below_drewN | apply below_drew1) | exact HB.out))) : w.heap.size ≤ gb145)); have n3_ := Aside0.mk ((by rw [hg]; exact (below_size (by repeat (first | (with_reducible first | exact HB.out | apply below_alloc | apply pw_below_drewN | apply below_drew1) | exact HB.out))) : w.heap.size ≤ gb145)); clear HB; have HB := n0_; have BK145 := n1_; have GW145 := n2_; have GE145 := n3_; clear n0_ n1_ n2_ n3_; clear hb hbox hg; have hcz4_0 : w3.cell? ⟨gb145, 0, none⟩ = some (.int .i64 a0_0) := (blk_cell BK145.out 0).trans rfl; have hcz4_1 : w3.cell? ⟨gb145, 1, none⟩ = some (.int .i64 a0_1) := (blk_cell BK145.out 1).trans rfl; have hcz4_2 : w3.cell? ⟨gb145, 2, none⟩ = some (.int .i64 a0_2) := (blk_cell BK145.out 2).trans rfl; have hcz4_3 : w3.cell? ⟨gb145, 3, none⟩ = some (.string a0_3) := (blk_cell BK145.out 3).trans rfl; have hfz4_0 := blk_frozen BK145.out 0; have hfz4_1 := blk_frozen BK145.out 1; have hfz4_2 := blk_frozen BK145.out 2; have hfz4_3 := blk_frozen BK145.out 3))
  go_ret
  exact ⟨by first | rfl | (simp [errW_none, errW_some] <;> rfl) | (simp [*, errW_none, errW_some] <;> rfl), by repeat (first | (with_reducible first | exact HB.out | apply below_alloc | apply pw_below_drewN | apply below_drew1 | refine below_set ?_ GE145.out) | exact HB.out)⟩
 ·rw [if_neg c2] at H
  have c2b0 : (a0_0 == 1) = false := beq_eq_false_iff_ne.mpr c2
  have c2b1 : (a0_0 != 1) = true := bne_iff_ne.mpr c2
  obtain rfl := Option.some.inj H
  go_enter Try.func26, Try.ntmps26
  go_wp2_with (first | ((with_reducible refine gate_dst (N := 1) rfl ?_); refine box_event ?hg (N := 1) ?hd (cs := #[.int .i64 a0_0, .int .i64 a0_1, .int .i64 a0_2, .string a0_3]) (t := 41) ?hr ?_; (case hd => rfl); (case hg => rfl); (case hr => first | (go_simp; done) | (go_simp; rfl)); intro gb145 hg w5 hbox hb; have n0_ := Aside0.mk (below_step (by repeat (first | (with_reducible first | exact HB.out | apply below_alloc | apply pw_below_drewN | apply below_drew1) | exact HB.out)) hb); have n1_ := Aside0.mk (hbox); have n2_ := Aside0.mk ((by rw [hg]; exact (below_size (by repeat (first | (with_reducible first | exact HB.out | apply below_alloc | apply pw_below_drewN | apply below_drew1) | exact HB.out))) : w.heap.size ≤ gb145)); have n3_ := Aside0.mk ((by rw [hg]; exact (below_size (by repeat (first | (with_reducible first | exact HB.out | apply below_alloc | apply pw_below_drewN | apply below_drew1) | exact HB.out))) : w.heap.size ≤ gb145)); clear HB; have HB := n0_; have BK145 := n1_; have GW145 := n2_; have GE145 := n3_; clear n0_ n1_ n2_ n3_; clear hb hbox hg; have hcz6_0 : w5.cell? ⟨gb145, 0, none⟩ = some (.int .i64 a0_0) := (blk_cell BK145.out 0).trans rfl; have hcz6_1 : w5.cell? ⟨gb145, 1, none⟩ = some (.int .i64 a0_1) := (blk_cell BK145.out 1).trans rfl; have hcz6_2 : w5.cell? ⟨gb145, 2, none⟩ = some (.int .i64 a0_2) := (blk_cell BK145.out 2).trans rfl; have hcz6_3 : w5.cell? ⟨gb145, 3, none⟩ = some (.string a0_3) := (blk_cell BK145.out 3).trans rfl; have hfz6_0 := blk_frozen BK145.out 0; have hfz6_1 := blk_frozen BK145.out 1; have hfz6_2 := blk_frozen BK145.out 2; have hfz6_3 := blk_frozen BK145.out 3))
  go_ret
  exact ⟨by first | rfl | (simp [errW_none, errW_some] <;> rfl) | (simp [*, errW_none, errW_some] <;> rfl), by repeat (first | (with_reducible first | exact HB.out | apply below_alloc | apply pw_below_drewN | apply below_drew1 | refine below_set ?_ GE145.out) | exact HB.out)⟩
/-! ### roster_Ours: function 16 -/
def oursT (t : TT) : Bool := if t.2.1 = 1 then true else t.2.1 == 2
theorem oursT_is (t : TT) : roster_ours.f t.2.1 t.2.2.1 t.2.2.2.1 t.2.2.2.2 = some (oursT t) := by
 unfold roster_ours.f oursT
 split <;> rfl
def roster_Ours.f (k : Nat) (l : List ByteArray) : Option Bool := (titlesOf k l).bind fun ts => if l.length ≤ 1000000 then some (ts.any oursT) else none
theorem roster_Ours.mono : ∀ l k, LeO (roster_Ours.f k l) (roster_Ours.f (k + 1) l) := fun l k => LeO.bind (titlesOf_mono k l) fun _ => LeO.refl _
def ours_I (w : World) (pre : List TT) (W : World) : Prop := W.heap[w.heap.size]? = some (.cells #[.bool false] 4 (0, 0)) ∧ Below w.heap.size w W ∧ pre.any oursT = false
def ours_X (w : World) (c : Code) (pre : List TT) (W : World) : Prop := c = .ret ∧ W.heap[w.heap.size]? = some (.cells #[.bool true] 4 (0, 0)) ∧ Below w.heap.size w W ∧ pre.any oursT = true
theorem tt_row {B : Nat} {W : World} {row : Option Nat} (hr : ∀ r, row = some r → B ≤ r ∧ ∃ o : Obj, W.heap[r]? = some o ∧ o.isCells = false) {b : Nat} {cs : Array Value} {t : TypeId} {f : Nat × Nat} (h : W.heap[b]? = some (.cells cs t f)) : some b ≠ row := fun e => by
 obtain ⟨_, o, ho, hc⟩ := hr b e.symm
 rw [h] at ho
 cases ho
 cases hc
theorem ours_I_own {w : World} {B : Nat} (hB : w.heap.size ≤ B) : OwnFrom B (ours_I w) := fun s W W' row hs hg hr =>
 ⟨blk_grown hs.1 hg (tt_row hr hs.1), hs.2.1.grown hg hs.2.1.size (fun k e => Nat.le_trans hB (hr k e).1), hs.2.2⟩
theorem ours_X_own {w : World} {B : Nat} (hB : w.heap.size ≤ B) (c : Code) : OwnFrom B (ours_X w c) := fun s W W' row hs hg hr =>
 ⟨hs.1, blk_grown hs.2.1 hg (tt_row hr hs.2.1), hs.2.2.1.grown hg hs.2.2.1.size (fun k e => Nat.le_trans hB (hr k e).1), hs.2.2.2⟩
theorem keeps_below {B : Nat} {W W' : World} (h : Below W.heap.size W W') : KeepsFrom B W W' := ⟨h.size, fun k o _ hk _ => (h.block k (Array.getElem?_eq_some_iff.1 hk).1).trans hk⟩
theorem results_cellv {P : Program} {fn : Func} {p : Tmp} {ty : TypeId} (h : fn.results = #[.cell p ty]) (tmps : Array Value) (w : World) (g : Nat) (b : Bool) (hp : tmps.getD p undef = .pointer (some ⟨g, 0, none⟩)) (ha : (isAgg ty).run P w = .ok false w) (hg : w.cell? ⟨g, 0, none⟩ = some (.bool b)) : (results fn tmps).run P w = .ok (.bool b) w := by
 have hp' : tmps[p]?.getD undef = .pointer (some ⟨g, 0, none⟩) := by simpa using hp
 simp only [results, h]
 simp [hp', asAddr, loadVar, ha, hg, Sem.run_bind, Result.andThen, go_sem]
set_option maxHeartbeats 8000000 in
set_option maxRecDepth 100000 in
theorem roster_Ours.calls (k : Nat) (A0 : Option Addr) (c0 : Nat) (l0 : List ByteArray) (r : Bool) (w : World) (hr0 : Kd.C Kd.string w A0 l0.length l0) (hc0 : l0.length ≤ c0) (h : roster_Ours.f k l0 = some r) :
  Calls Try.prog 16 #[.slice A0 l0.length c0] w fun e w' => e = .returned (.bool r) ∧ Below w.heap.size w w' := by
 unfold roster_Ours.f at h
 obtain ⟨ts, hts, h⟩ := Option.bind_eq_some_iff.mp h
 split at h
 case isFalse => cases h
 rename_i hlen
 obtain rfl := Option.some.inj h
 have huT := Try.underlying41
 have HT := Aside0.mk hts
 have HL := Aside0.mk hlen
 have HC := Aside0.mk hr0
 clear hts hlen hr0 h
 refine (callsIn_wide (n := 3)).1 ?_
 refine callsIn_of_wp_marks Try.func16 rfl trivial ?_ rfl
 simp only [Try.ntmps16, List.size_toArray, List.length_cons, List.length_nil, Nat.reduceAdd, Nat.reduceSub, Array.replicate_succ, Array.replicate_zero, List.push_toArray, List.append_toArray, List.nil_append, List.cons_append]
 gi_wp2_with (refine ⟨trivial, ?_⟩; gi_at_call 20; refine ((callsIn_wide (n := 3 - 1)).2 (titles_mk A0 l0.length c0 _)).mono ?_; rintro e w' ⟨rfl, rfl⟩)
 have n0 := heap_alloc_new w (.cells #[.bool false] 4)
 have n1 := heap_alloc_new (w.alloc (.cells #[.bool false] 4)) (.cells #[.slice A0 l0.length c0] 22)
 have hbW := below_alloc (below_alloc (Below.refl w.heap.size w) (.cells #[.bool false] 4)) (.cells #[.slice A0 l0.length c0] 22)
 have n0' := blk_alloc n0 (.cells #[.slice A0 l0.length c0] 22)
 have hsz : ((w.alloc (.cells #[.bool false] 4)).alloc (.cells #[.slice A0 l0.length c0] 22)).heap.size = w.heap.size + 1 + 1 := by simp
 simp only [World.size_alloc] at n1 ⊢
 generalize (w.alloc (.cells #[.bool false] 4)).alloc (.cells #[.slice A0 l0.length c0] 22) = W0 at *
 clear n0
 rename_i Q' K hK
 have hb1 : w.heap.size + 1 < W0.heap.size := blk_lt n1
 refine wpIn_rangeFunc_ownH rfl (by omega) (gf := 34) (lb := #[.pointer (some ⟨w.heap.size + 1, 0, none⟩)]) rfl trivial (enters_of Try.func34 (by kernel_rfl) rfl) (encs := tt_encs) (Kp := Below w.heap.size)
  (titles_stops k A0 c0 l0 ts HT.out HL.out w HC.out (w.heap.size + 1) W0 hbW n1) ?hKt ?hKb (Below.refl _ _) (fun _ => rfl) (ours_I w) (ours_X w) (ours_I_own hbW.size) (ours_X_own hbW.size) ⟨n0', hbW, rfl⟩
  (fun x a' W => ∃ bx, w.heap.size < bx ∧ W.heap[bx]? = some (.cells #[.int .i64 x.2.1, .int .i64 x.2.2.1, .int .i64 x.2.2.2.1, .string x.2.2.2.2] 41 (0, 0)) ∧ a' = { tmps := #[.slice A0 l0.length c0, undef, .pointer (some ⟨w.heap.size, 0, none⟩), undef, .pointer (some ⟨bx, 0, none⟩), .slice A0 l0.length c0,
    .func (.func 34) #[] #[.pointer (some ⟨w.heap.size + 1, 0, none⟩)], .string x.1, .agg #[.int .i64 x.2.1, .int .i64 x.2.2.1, .int .i64 x.2.2.2.1, .string x.2.2.2.2], undef, undef], defers := [] }) ?hAx ?assign ?body ?done ?stop
 case hKt =>
  intro X Y Z h1 h2
  exact h1.trans h2
 case hKb =>
  intro W l o o' hl ho hc _
  exact (Below.refl w.heap.size W).grown (grownBy_putObj' W l o') (Nat.le_of_lt (Nat.lt_of_le_of_lt (Nat.le_trans hbW.size hl) (Array.getElem?_eq_some_iff.1 ho).1)) (fun k e => by cases e; exact Nat.le_trans hbW.size hl)
 case hAx =>
  rintro x a' _ W W' row ⟨bx, h1, h2, h3⟩ hg hr
  exact ⟨bx, h1, blk_grown h2 hg (tt_row hr h2), h3⟩
 case assign =>
  rintro l pre x W K2 hi hK2
  simp only [tt_encs]
  gi_wp2
  exact hK2 _ _ ((KeepsOthers.alloc _ _).from _) ((Below.refl _ W).alloc hi.2.1.size _) ⟨blk_alloc hi.1 _, below_alloc hi.2.1 _, hi.2.2⟩ ⟨W.heap.size, blk_lt hi.1, heap_alloc_new _ _, rfl⟩
 case body =>
  rintro l pre x a' W hl ⟨rr, hrr⟩ hi ⟨bx, hbx, hx, rfl⟩ hlen
  have HI := Aside0.mk hi
  have c0 := (blk_cell hx 0).trans rfl
  have c1 := (blk_cell hx 1).trans rfl
  have c2 := (blk_cell hx 2).trans rfl
  have c3 := (blk_cell hx 3).trans rfl
  have HLT := Aside0.mk (show w.heap.size < W.heap.size from blk_lt hi.1)
  have HRC := Aside0.mk (roster_ours.calls x.2.1 x.2.2.1 x.2.2.2.1 x.2.2.2.2 (oursT x) W (oursT_is x))
  clear hi hx
  cases ho : oursT x with
  | false =>
   gi_wp2_with (refine ⟨trivial, ?_⟩; gi_at_call 26; refine (CallsIn.inRound l (callsIn_wide.2 HRC.out)).mono ?_; rintro e w4 ⟨rfl, hb4⟩; rw [ho]; have HB4 := Aside0.mk hb4; clear hb4)
   exact ⟨keeps_below HB4.out, HB4.out.mono (Nat.le_of_lt HLT.out), blk_below HI.out.1 HB4.out, below_step HI.out.2.1 HB4.out, by rw [List.any_append]; simp [HI.out.2.2, ho]⟩
  | true =>
   gi_wp2_with (refine ⟨trivial, ?_⟩; gi_at_call 26; refine (CallsIn.inRound l (callsIn_wide.2 HRC.out)).mono ?_; rintro e w4 ⟨rfl, hb4⟩; rw [ho]; have HB4 := Aside0.mk hb4; have hs4 := (blk_cell (blk_below HI.out.1 hb4) 0).trans rfl; have hf4 := blk_frozen (blk_below HI.out.1 hb4) 0; clear hb4)
   exact ⟨(keeps_below HB4.out).trans ((KeepsOthers.setCell _ _ _).from _), rfl, blk_put (cs' := #[.bool true]) (blk_below HI.out.1 HB4.out) 0 (.bool true) rfl, (below_step HI.out.2.1 HB4.out).setCell (p := ⟨w.heap.size, 0, none⟩) (Nat.le_refl _) _, by rw [List.any_append]; simp [ho]⟩
 case done =>
  intro D ys W hD hys hi hDk
  subst hys
  have hs4 := (blk_cell hi.1 0).trans rfl
  have hf4 := blk_frozen hi.1 0
  have hne : D ≠ w.heap.size := by omega
  refine hK _ _ ?_
  gi_wp2
  have hDk2 : (W.setCell ⟨w.heap.size, 0, none⟩ (.bool false)).heap[D]? = some (.deferred (some [])) := (Below.heap_setCell _ _ _ D hne).trans hDk
  have hb5 := blk_put (cs' := #[.bool false]) hi.1 0 (.bool false) rfl
  have hb6 := blk_grown hb5 (grownBy_putObj' _ D (.deferred none)) (fun e => hne (Option.some.inj e).symm)
  refine ⟨by simp, .inl ⟨_, _, rfl, run_takeDeferred hDk2, ⟨_, results_cellv rfl _ _ w.heap.size false rfl (by kernel_rfl) ((blk_cell hb6 0).trans rfl), ?_, ?_⟩⟩⟩
  ·rw [hi.2.2]
  ·exact (hi.2.1.setCell (p := ⟨w.heap.size, 0, none⟩) (Nat.le_refl _) (.bool false)).grown (grownBy_putObj' _ D (.deferred none)) (by simp; exact hi.2.1.size) (fun k e => by cases e; exact Nat.le_trans hbW.size hD)
 case stop =>
  rintro D c pre W hD ⟨i, hi, rfl⟩ ⟨rfl, hx1, hx2, hx3⟩ hDk
  have hne : D ≠ w.heap.size := by omega
  have hb6 := blk_grown hx1 (grownBy_putObj' _ D (.deferred none)) (fun e => hne (Option.some.inj e).symm)
  gi_wp2
  refine ⟨by simp, .inl ⟨_, _, rfl, run_takeDeferred hDk, ⟨_, results_cellv rfl _ _ w.heap.size true rfl (by kernel_rfl) ((blk_cell hb6 0).trans rfl), ?_, ?_⟩⟩⟩
  ·rw [List.any_eq_true.2 (by obtain ⟨y, hy, e⟩ := List.any_eq_true.1 hx3; exact ⟨y, List.mem_of_mem_take hy, e⟩)]
  ·exact hx2.grown (grownBy_putObj' _ D (.deferred none)) hx2.size (fun k e => by cases e; exact Nat.le_trans hbW.size hD)
/-! ### roster_Epochs: function 7 -/
theorem id_keys (mb : Option Nat) (w : World) : Calls Try.prog 22 #[.map mb] w fun e w' => e = .returned (.func (.func 38) #[] #[.pointer (some ⟨w.heap.size, 0, none⟩)]) ∧ w' = w.alloc (.cells #[.map mb] 37) :=
 (callsIn_wide (n := 5)).1 (Go.Proofs.AnyZI.keys_in Try.keysI Fence.wide 5 trivial rfl mb w)
theorem id_sorts (m : Nat) : Go.Proofs.AnyZI.SortsIn Try.prog Try.sortedI_ren Fence.wide m :=
 ⟨fun blk off cap ss W hH hblk hsz => callsIn_wide.2 (Go.Proofs.AnyM.slices_Sort_int Try.sortI blk off cap ss W hH hblk hsz),
  fun p cap W => callsIn_wide.2 (Go.Proofs.AnyM.slices_Sort_int_none Try.sortI p cap W)⟩
set_option maxHeartbeats 1000000 in
theorem id_sorted0 (b nn : Nat) (D0 : DataW Unit) (R : Value → Option (DataW Unit × List MemPlace)) (w : World) (hown : w.ownsMap Try.prog 3 R b nn D0) (hmax : Maps.size D0 ≤ maxLen) (hbytes : Maps.size D0 * 8 ≤ 140737488355328) :
  Calls Try.prog 21 #[.func (.func 38) #[] #[.pointer (some ⟨w.heap.size, 0, none⟩)]] (w.alloc (.cells #[.map (some b)] 37)) fun e w' => ∃ (v : Value) (ss : List Int), e = .returned v ∧ ss.Perm (intKeys D0) ∧
   w'.ownsRow (w.alloc (.cells #[.map (some b)] 37)).heap.size 3 1 v ss.length ((ss.mergeSort (fun x y => decide (x ≤ y))).map encZ) ∧ (v = .slice none 0 0 ↔ ss = []) ∧ Below (w.alloc (.cells #[.map (some b)] 37)).heap.size (w.alloc (.cells #[.map (some b)] 37)) w' := by
 have hbl := hown.lt
 have hseq : SeqGives Fence.wide 2 Try.prog 38 #[.pointer (some ⟨w.heap.size, 0, none⟩)] encZ (fun ss => ss.Perm (intKeys D0)) (Maps.size D0) (w.alloc (.cells #[.map (some b)] 37)) :=
  Go.Proofs.AnyZI.keys_gives (ρ := Try.keysI_ren) { Try.keysI with } Fence.wide _ trivial rfl (by omega) w.heap.size b nn D0 _ (by simp) (by simp) (by
   obtain ⟨es, clock, hb, Ft, hs, hD⟩ := hown
   exact ⟨es, clock, (Below.heap_alloc _ _ b hbl).trans hb, Ft, hs, hD⟩)
 exact (callsIn_wide (n := 5)).1 (Go.Proofs.AnyZI.sorted_in Try.sortedI Fence.wide 5 trivial trivial trivial trivial rfl (by omega) (id_sorts _) (enters_of Try.func37 (by kernel_rfl) rfl) 38 #[.pointer (some ⟨w.heap.size, 0, none⟩)] trivial (enters_of Try.func38 (by kernel_rfl) rfl) _ _ hmax hbytes _ hseq)
/-! numbers, rising, each once -/
def idAdd (n : Int) : List Int → List Int
 | [] => [n]
 | a :: r => if n = a then a :: r else if n < a then n :: a :: r else a :: idAdd n r
def idOf (xs : List Int) : List Int := xs.foldl (fun l n => idAdd n l) []
theorem mem_idAdd (n x : Int) (l : List Int) : x ∈ idAdd n l ↔ x = n ∨ x ∈ l := by
 induction l with
 | nil => simp [idAdd]
 | cons a r ih =>
  unfold idAdd
  split
  ·rename_i h
   subst h
   simp
  ·split
   ·simp
   ·simp only [List.mem_cons, ih]
    constructor
    ·rintro (h | h | h) <;> simp [h]
    ·rintro (h | h | h) <;> simp [h]
theorem rise_idAdd (n : Int) (l : List Int) (h : l.Pairwise (· < ·)) : (idAdd n l).Pairwise (· < ·) := by
 induction l with
 | nil => simp [idAdd]
 | cons a r ih =>
  obtain ⟨h1, h2⟩ := List.pairwise_cons.1 h
  unfold idAdd
  split
  ·exact h
  ·split
   ·rename_i h3 h4
    exact List.pairwise_cons.2 ⟨fun b hb => by
     rcases List.mem_cons.1 hb with rfl | hb
     ·exact h4
     ·have := h1 b hb; omega, h⟩
   ·rename_i h3 h4
    exact List.pairwise_cons.2 ⟨fun b hb => by
     rcases (mem_idAdd n b r).1 hb with rfl | hb
     ·omega
     ·exact h1 b hb, ih h2⟩
theorem idOf_fold (xs l : List Int) (h : l.Pairwise (· < ·)) : (xs.foldl (fun l n => idAdd n l) l).Pairwise (· < ·) ∧ ∀ x, x ∈ xs.foldl (fun l n => idAdd n l) l ↔ x ∈ l ∨ x ∈ xs := by
 induction xs generalizing l with
 | nil => exact ⟨h, fun x => by simp⟩
 | cons a r ih =>
  obtain ⟨h1, h2⟩ := ih (idAdd a l) (rise_idAdd a l h)
  refine ⟨h1, fun x => ?_⟩
  rw [List.foldl_cons, h2 x, mem_idAdd, List.mem_cons]
  constructor
  ·rintro ((h | h) | h) <;> simp [h]
  ·rintro (h | h | h) <;> simp [h]
theorem idOf_rise (xs : List Int) : (idOf xs).Pairwise (· < ·) := (idOf_fold xs [] List.Pairwise.nil).1
theorem mem_idOf (xs : List Int) (x : Int) : x ∈ idOf xs ↔ x ∈ xs := by
 rw [idOf, (idOf_fold xs [] List.Pairwise.nil).2 x]
 simp
theorem id_sort {w : World} {b n : Nat} {D : DataW Unit} {R : Value → Option (DataW Unit × List MemPlace)} (h : w.ownsMap Try.prog 3 R b n D) {ss l : List Int} (hp : ss.Perm (intKeys D)) (hr : l.Pairwise (· < ·)) (hm : ∀ x, x ∈ l ↔ Maps.has D (.int .i64 x) = true) :
  ss.mergeSort (fun x y => decide (x ≤ y)) = l := by
 obtain ⟨es, hD, hpw, _⟩ := h.entries (Maps.int_keyed Try.underlying3)
 obtain ⟨es', hD', hko⟩ := h.keysOf
 obtain rfl : es = es' := by rw [hD] at hD'; simpa using hD'
 subst hD
 have h1 := perm_intKeys hpw (fun p hp => by obtain ⟨v, hv⟩ := hko p hp; obtain ⟨x, _, hx, _⟩ := Maps.keyOf_i64 Try.underlying3 hv; exact ⟨x, hx⟩) (hr.imp (fun h => Int.ne_of_lt h)) hm
 have h2 := mergeSort_of_perm_i (hp.trans h1.symm)
 have h3 : l.mergeSort leI = l := List.mergeSort_of_pairwise (hr.imp (fun h => decide_eq_true (Int.le_of_lt h)))
 exact h2.trans h3
/-- The set has just these numbers. -/
def Seen (D : DataW Unit) (φ : Int → Prop) : Prop := Maps.IsMap D ∧ ∀ n, Maps.has D (.int .i64 n) = true ↔ φ n
theorem seen_put {D : DataW Unit} {φ : Int → Prop} (h : Seen D φ) (x : Int) (d : DataW Unit) : Seen (D.put (.int .i64 x) d) (fun n => φ n ∨ n = x) := by
 refine ⟨h.1.put _ _, fun n => ?_⟩
 by_cases e : n = x
 ·subst e
  rw [Maps.has_put_same h.1 (show WideAt.IsKeyLit (.int .i64 n) from trivial)]
  simp
 ·rw [Maps.has_put_other (fun e2 => e (by injection e2))]
  rw [h.2 n]
  simp [e]
theorem seen_iff {D : DataW Unit} {φ ψ : Int → Prop} (h : Seen D φ) (e : ∀ n, φ n ↔ ψ n) : Seen D ψ := ⟨h.1, fun n => (h.2 n).trans (e n)⟩
theorem set_law : Maps.Keyed Try.prog 3 := Maps.int_keyed Try.underlying3
abbrev SetAt (w : World) (b n : Nat) (D : DataW Unit) : Prop := w.ownsMap Try.prog 3 (plainElem Try.prog 3) b n D
theorem id_sorted (b n : Nat) (D : DataW Unit) (l : List Int) (hn : n ≤ 3000000) (hr : l.Pairwise (· < ·)) (hm : Seen D (fun x => x ∈ l)) (w : World) (h : SetAt w b n D) :
  Calls Try.prog 21 #[.func (.func 38) #[] #[.pointer (some ⟨w.heap.size, 0, none⟩)]] (w.alloc (.cells #[.map (some b)] 37)) fun e w' => ∃ v : Value, e = .returned v ∧
   w'.ownsRow w.heap.size 3 1 v l.length (l.map encZ) ∧ Below w.heap.size w w' := by
 have hz := h.size_le
 refine (id_sorted0 b n D _ w h (by unfold maxLen; omega) (by omega)).mono ?_
 rintro e w' ⟨v, ss, rfl, hp, ho, _, hb⟩
 have hs := id_sort h hp hr (fun x => (hm.2 x).symm)
 have hl : ss.length = l.length := by rw [← hs, List.length_mergeSort]
 rw [hs, hl] at ho
 exact ⟨v, rfl, own_weaken ho (by simp), below_step (below_alloc (Below.refl _ _) _) hb⟩
theorem id_zero (w : World) : (zeroValue 3).run Try.prog w = .ok (.int .i64 0) w := by kernel_rfl
def wfT (t : TT) : Prop := (Lit.int .i64 t.2.2.1).wf = true ∧ (Lit.int .i64 t.2.2.2.1).wf = true
instance (t : TT) : Decidable (wfT t) := by unfold wfT; exact inferInstance
def ids_I (w : World) (m bs : Nat) (extra : World → Prop) (g : List TT → List Int) (pre : List {t : TT // wfT t}) (W : World) : Prop :=
 W.heap[bs]? = some (.cells #[.map (some m)] 37 (0, 0)) ∧ (∃ D n, n ≤ pre.length ∧ SetAt W m n D ∧ Seen D (fun x => x ∈ g (pre.map Subtype.val))) ∧ Below w.heap.size w W ∧ extra W
theorem ids_own {w : World} {m bs B : Nat} {extra : World → Prop} {g : List TT → List Int} (hB : w.heap.size ≤ B) (hm : m < B) (he : OwnFrom B (fun (_ : Unit) W => extra W)) : OwnFrom B (ids_I w m bs extra g) := fun s W W' row hs hg hr => by
 obtain ⟨h1, ⟨D, n, hn, h2, h3⟩, h4, h5⟩ := hs
 exact ⟨blk_grown h1 hg (tt_row hr h1), ⟨D, n, hn, h2.kept hg (fun e => by have := (hr m e.symm).1; omega), h3⟩, h4.grown hg h4.size (fun k e => Nat.le_trans hB (hr k e).1), he () W W' row h5 hg hr⟩
theorem seen_nil {g : List TT → List Int} (h : g [] = []) : Seen (.map []) (fun x => x ∈ g (([] : List {t : TT // wfT t}).map Subtype.val)) := ⟨⟨[], rfl⟩, fun n => by rw [List.map_nil, h]; simp [Maps.has]⟩
def roster_Epochs.g (pre : List TT) : List Int := (pre.filter (fun t => t.2.1 == 1)).map (fun t => t.2.2.1)
theorem roster_Epochs.g_in (l : List TT) (t : TT) (n : Int) (h : (t.2.1 == 1) = true) : n ∈ roster_Epochs.g (l ++ [t]) ↔ n ∈ roster_Epochs.g l ∨ n = t.2.2.1 := by
 unfold roster_Epochs.g
 rw [List.filter_append, List.map_append, List.mem_append, List.filter_cons, if_pos h]
 simp
theorem roster_Epochs.g_out (l : List TT) (t : TT) (n : Int) (h : (t.2.1 == 1) = false) : n ∈ roster_Epochs.g (l ++ [t]) ↔ n ∈ roster_Epochs.g l := by
 unfold roster_Epochs.g
 rw [List.filter_append, List.map_append, List.mem_append, List.filter_cons, if_neg (by rw [h]; decide)]
 simp
def roster_Epochs.f (k : Nat) (l : List ByteArray) : Option (List Int) := (titlesOf k l).bind fun ts => if l.length ≤ 1000000 ∧ (∀ t ∈ ts, wfT t) then some (idOf (roster_Epochs.g ts)) else none
set_option maxHeartbeats 8000000 in
set_option maxRecDepth 100000 in
theorem roster_Epochs.calls (k : Nat) (A0 : Option Addr) (c0 : Nat) (l0 : List ByteArray) (r : List Int) (w : World) (hr0 : Kd.C Kd.string w A0 l0.length l0) (hc0 : l0.length ≤ c0) (h : roster_Epochs.f k l0 = some r) :
  Calls Try.prog 7 #[.slice A0 l0.length c0] w fun e w' => ∃ v0_ : Value, e = .returned v0_ ∧ Kd.R (Kd.int .i64) 3 w' w.heap.size (fun _ => True) v0_ r ∧ Below w.heap.size w w' := by
 unfold roster_Epochs.f at h
 obtain ⟨ts, hts, h⟩ := Option.bind_eq_some_iff.mp h
 split at h
 case isFalse => cases h
 rename_i hlen
 obtain rfl := Option.some.inj h
 have huT := Try.underlying41
 have hmm := @run_makeMap Try.prog
 have HT := Aside0.mk hts
 have HL := Aside0.mk hlen.1
 have HWF := Aside0.mk hlen.2
 have HLN := Aside0.mk (titlesOf_length hts)
 have HC := Aside0.mk hr0
 clear hts hlen hr0 h
 refine (callsIn_wide (n := 3)).1 ?_
 refine callsIn_of_wp_marks Try.func7 rfl trivial ?_ rfl
 simp only [Try.ntmps7, List.size_toArray, List.length_cons, List.length_nil, Nat.reduceAdd, Nat.reduceSub, Array.replicate_succ, Array.replicate_zero, List.push_toArray, List.append_toArray, List.nil_append, List.cons_append]
 gi_wp2_with (refine ⟨trivial, ?_⟩; gi_at_call 20; refine ((callsIn_wide (n := 3 - 1)).2 (titles_mk A0 l0.length c0 _)).mono ?_; rintro e w' ⟨rfl, rfl⟩)
 have nm_ := World.ownsMap_made (H := Unit) w Try.prog 3 (plainElem Try.prog 3)
 have ns_ := heap_alloc_new (w.alloc (.map #[] 0)) (.cells #[.map (some (w.heap.size))] 37)
 have nt_ := heap_alloc_new ((w.alloc (.map #[] 0)).alloc (.cells #[.map (some (w.heap.size))] 37)) (.cells #[.slice A0 l0.length c0] 22)
 have hbW := below_alloc (below_alloc (below_alloc (Below.refl w.heap.size w) (.map #[] 0)) (.cells #[.map (some (w.heap.size))] 37)) (.cells #[.slice A0 l0.length c0] 22)
 have hsz : (((w.alloc (.map #[] 0)).alloc (.cells #[.map (some (w.heap.size))] 37)).alloc (.cells #[.slice A0 l0.length c0] 22)).heap.size = w.heap.size + 1 + 1 + 1 := by simp
 simp only [World.size_alloc] at nm_ ns_ nt_ ⊢
 have nm2 := (nm_.alloc (.cells #[.map (some (w.heap.size))] 37)).alloc (.cells #[.slice A0 l0.length c0] 22)
 have ns2 := blk_alloc ns_ (.cells #[.slice A0 l0.length c0] 22)
 generalize (((w.alloc (.map #[] 0)).alloc (.cells #[.map (some (w.heap.size))] 37)).alloc (.cells #[.slice A0 l0.length c0] 22)) = W0 at *
 clear nm_ ns_
 rename_i Q' K hK
 have h0 : ids_I w (w.heap.size) (w.heap.size + 1) (fun _ => True) (roster_Epochs.g) [] W0 := ⟨ns2, ⟨.map [], 0, Nat.le_refl _, nm2, seen_nil rfl⟩, hbW, trivial⟩
 refine wpIn_rangeFunc_ownH rfl (by omega) (gf := 34) (lb := #[.pointer (some ⟨w.heap.size + 1 + 1, 0, none⟩)]) rfl trivial (enters_of Try.func34 (by kernel_rfl) rfl) (encs := fun x : {t : TT // wfT t} => tt_encs x.1) (Kp := Below w.heap.size)
  (titles_stopsP k A0 c0 l0 ts HT.out HL.out wfT HWF.out w HC.out (w.heap.size + 1 + 1) W0 hbW nt_) ?hKt ?hKb (Below.refl _ _) (fun _ => rfl) (ids_I w (w.heap.size) (w.heap.size + 1) (fun _ => True) (roster_Epochs.g)) (fun _ _ _ => False) (ids_own hbW.size (by omega) ?he) (fun _ _ _ _ _ h => h.elim) h0
  (fun x a' W => ∃ bx, w.heap.size + 1 < bx ∧ W.heap[bx]? = some (.cells #[.int .i64 x.1.2.1, .int .i64 x.1.2.2.1, .int .i64 x.1.2.2.2.1, .string x.1.2.2.2.2] 41 (0, 0)) ∧ a' = { tmps := #[.slice A0 l0.length c0, undef, .slice none 0 0, .pointer (some ⟨w.heap.size + 1, 0, none⟩), undef, .pointer (some ⟨bx, 0, none⟩), .map (some (w.heap.size)), .slice A0 l0.length c0, .func (.func 34) #[] #[.pointer (some ⟨w.heap.size + 1 + 1, 0, none⟩)], .string x.1.1, .agg #[.int .i64 x.1.2.1, .int .i64 x.1.2.2.1, .int .i64 x.1.2.2.2.1, .string x.1.2.2.2.2], undef, undef, undef, undef, undef, undef, undef, undef, undef, undef, undef], defers := [] }) ?hAx ?assign ?body ?done (fun _ _ _ _ _ _ h => h.elim)
 case hKt =>
  intro X Y Z h1 h2
  exact h1.trans h2
 case hKb =>
  intro W l o o' hl ho hc _
  exact (Below.refl w.heap.size W).grown (grownBy_putObj' W l o') (Nat.le_of_lt (Nat.lt_of_le_of_lt (Nat.le_trans hbW.size hl) (Array.getElem?_eq_some_iff.1 ho).1)) (fun k e => by cases e; exact Nat.le_trans hbW.size hl)
 case he =>
  exact fun _ _ _ _ _ _ _ => trivial
 case hAx =>
  rintro x a' _ W W' row ⟨bx, h1, h2, h3⟩ hg hr
  exact ⟨bx, h1, blk_grown h2 hg (tt_row hr h2), h3⟩
 case assign =>
  rintro l pre x W K2 hi hK2
  simp only [tt_encs]
  gi_wp2
  exact hK2 _ _ ((KeepsOthers.alloc _ _).from _) ((Below.refl _ W).alloc hi.2.2.1.size _) ⟨blk_alloc hi.1 _, (by obtain ⟨D, n, hn, h2, h3⟩ := hi.2.1; exact ⟨D, n, hn, h2.alloc _, h3⟩), below_alloc hi.2.2.1 _, trivial⟩ ⟨W.heap.size, blk_lt hi.1, heap_alloc_new _ _, rfl⟩
 case body =>
  rintro l pre x a' W hl ⟨rr, hrr⟩ ⟨h1, ⟨D, nD, hnD, h2, h3⟩, h4, h5⟩ ⟨bx, hbx, hx, rfl⟩ hlen
  obtain ⟨⟨s, r1, r2, r3, r4⟩, hwf⟩ := x
  have hwf2 : wfT (s, r1, r2, r3, r4) := hwf
  dsimp only at hx ⊢
  have c0 := (blk_cell hx 0).trans rfl
  have c1 := (blk_cell hx 1).trans rfl
  have c2 := (blk_cell hx 2).trans rfl
  have c3 := (blk_cell hx 3).trans rfl
  have cs := (blk_cell h1 0).trans rfl
  have hkey := Maps.keyOf_int_mk Try.underlying3 hwf2.1
  have HL0 := HL.out
  have HZ := Aside0.mk h4.size
  have HS := Aside0.mk h1
  have H4 := Aside0.mk h4
  have H3 := Aside0.mk h3
  clear hx h1 h4 h3
  by_cases q : r1 = 1
  ·subst q
   gi_wp2_with (first
    | (gi_at_lookup; refine wpListIn_lookup_own_int _ rfl _ _ 37 rfl 3 3 .i64 set_law Try.underlying37 Try.underlying3 (id_zero _) _ nD _ rfl h2 _ _ rfl hkey ?_; intro c hat hwc)
    | (gi_at_mapUpdate; refine wpListIn_mapUpdate_own _ rfl _ _ _ 37 rfl 3 3 set_law Try.underlying37 _ _ nD _ rfl h2 (by unfold maxLen; omega) _ _ _ rfl rfl hkey _ [] (plainElem_int Try.underlying3 (wrap64_wf _)) ?_; intro w1 hown1 hgrow1))
   exact ⟨KeepsFrom.of_grownBy hgrow1 (fun j e => by cases e; omega), (Below.refl _ W).grown hgrow1 HZ.out (fun k e => by cases e; omega), blk_grown HS.out hgrow1 (by simp), ⟨_, nD + 1, by rw [List.length_append, List.length_singleton]; omega, hown1, seen_iff (seen_put H3.out _ _) (fun n => (by rw [List.map_append]; exact (roster_Epochs.g_in _ (s, 1, r2, r3, r4) _ rfl).symm))⟩, H4.out.grown hgrow1 HZ.out (fun k e => by cases e; omega), trivial⟩
  ·gi_wp2_with fail
   exact ⟨keeps_below (Below.refl _ _), Below.refl _ _, HS.out, ⟨_, nD, by rw [List.length_append]; omega, h2, seen_iff H3.out (fun n => (by rw [List.map_append]; exact (roster_Epochs.g_out _ (s, r1, r2, r3, r4) _ (by simp [q])).symm))⟩, H4.out, trivial⟩
 case done =>
  rintro D ys W hD hys ⟨h1, ⟨Dm, nD, hnD, h2, h3⟩, h4, h5⟩ hDk
  refine hK _ _ ?_
  have cs := (blk_cell h1 0).trans rfl
  have hly : ys.length = l0.length := by rw [← HLN.out, ← hys, List.length_map]
  have HL0 := HL.out
  rw [hys] at h3
  have hS := id_sorted _ nD Dm (idOf ((roster_Epochs.g) ts)) (by omega) (idOf_rise _) (seen_iff h3 (fun n => (mem_idOf _ n).symm)) W h2
  gi_wp2_with (first
   | (refine ⟨trivial, ?_⟩; gi_at_call 22; refine (callsIn_wide.2 (id_keys _ _)).mono ?_; rintro e w4 ⟨rfl, rfl⟩)
   | (refine ⟨trivial, ?_⟩; gi_at_call 21; refine (callsIn_wide.2 hS).mono ?_; rintro e w5 ⟨v, rfl, ho, hb5⟩))
  refine ⟨by simp, .inl ⟨_, _, rfl, run_takeDeferred (blk_below hDk hb5), ⟨_, results_tmp rfl _ _ _, v, rfl, ?_, ?_⟩⟩⟩
  ·refine Kd.R_of_own ((own_weaken ho h4.size).kept (grownBy_putObj' w5 D (.deferred none)) (.inr (fun e => ?_))) (fun _ _ => trivial)
   have := own_base ho _ e
   have := blk_lt hDk
   omega
  ·exact (below_step h4 hb5).grown (grownBy_putObj' w5 D (.deferred none)) (below_step h4 hb5).size (fun k e => by cases e; exact Nat.le_trans hbW.size hD)
/-! ### roster_Parts: function 9 -/
def roster_Parts.g (a1 : Int) (pre : List TT) : List Int := (pre.filter (fun t => t.2.1 == 2 && t.2.2.1 == a1)).map (fun t => t.2.2.2.1)
theorem roster_Parts.g_in (a1 : Int) (l : List TT) (t : TT) (n : Int) (h : (t.2.1 == 2 && t.2.2.1 == a1) = true) : n ∈ roster_Parts.g a1 (l ++ [t]) ↔ n ∈ roster_Parts.g a1 l ∨ n = t.2.2.2.1 := by
 unfold roster_Parts.g
 rw [List.filter_append, List.map_append, List.mem_append, List.filter_cons, if_pos h]
 simp
theorem roster_Parts.g_out (a1 : Int) (l : List TT) (t : TT) (n : Int) (h : (t.2.1 == 2 && t.2.2.1 == a1) = false) : n ∈ roster_Parts.g a1 (l ++ [t]) ↔ n ∈ roster_Parts.g a1 l := by
 unfold roster_Parts.g
 rw [List.filter_append, List.map_append, List.mem_append, List.filter_cons, if_neg (by rw [h]; decide)]
 simp
def roster_Parts.f (k : Nat) (l : List ByteArray) (a1 : Int) : Option (List Int) := (titlesOf k l).bind fun ts => if l.length ≤ 1000000 ∧ (∀ t ∈ ts, wfT t) then some (idOf (roster_Parts.g a1 ts)) else none
theorem roster_Parts.mono : ∀ l a1 k, LeO (roster_Parts.f k l a1) (roster_Parts.f (k + 1) l a1) := fun l a1 k => LeO.bind (titlesOf_mono k l) fun _ => LeO.refl _
set_option maxHeartbeats 8000000 in
set_option maxRecDepth 100000 in
theorem roster_Parts.calls (k : Nat) (A0 : Option Addr) (c0 : Nat) (l0 : List ByteArray) (a1 : Int) (r : List Int) (w : World) (hr0 : Kd.C Kd.string w A0 l0.length l0) (hc0 : l0.length ≤ c0) (h : roster_Parts.f k l0 a1 = some r) :
  Calls Try.prog 9 #[.slice A0 l0.length c0, .int .i64 a1] w fun e w' => ∃ v0_ : Value, e = .returned v0_ ∧ Kd.R (Kd.int .i64) 3 w' w.heap.size (fun _ => True) v0_ r ∧ Below w.heap.size w w' := by
 unfold roster_Parts.f at h
 obtain ⟨ts, hts, h⟩ := Option.bind_eq_some_iff.mp h
 split at h
 case isFalse => cases h
 rename_i hlen
 obtain rfl := Option.some.inj h
 have huT := Try.underlying41
 have hmm := @run_makeMap Try.prog
 have HT := Aside0.mk hts
 have HL := Aside0.mk hlen.1
 have HWF := Aside0.mk hlen.2
 have HLN := Aside0.mk (titlesOf_length hts)
 have HC := Aside0.mk hr0
 clear hts hlen hr0 h
 refine (callsIn_wide (n := 3)).1 ?_
 refine callsIn_of_wp_marks Try.func9 rfl trivial ?_ rfl
 simp only [Try.ntmps9, List.size_toArray, List.length_cons, List.length_nil, Nat.reduceAdd, Nat.reduceSub, Array.replicate_succ, Array.replicate_zero, List.push_toArray, List.append_toArray, List.nil_append, List.cons_append]
 gi_wp2_with (refine ⟨trivial, ?_⟩; gi_at_call 20; refine ((callsIn_wide (n := 3 - 1)).2 (titles_mk A0 l0.length c0 _)).mono ?_; rintro e w' ⟨rfl, rfl⟩)
 have nm_ := World.ownsMap_made (H := Unit) (w.alloc (.cells #[.int .i64 a1] 3)) Try.prog 3 (plainElem Try.prog 3)
 have ns_ := heap_alloc_new ((w.alloc (.cells #[.int .i64 a1] 3)).alloc (.map #[] 0)) (.cells #[.map (some (w.heap.size + 1))] 37)
 have nt_ := heap_alloc_new (((w.alloc (.cells #[.int .i64 a1] 3)).alloc (.map #[] 0)).alloc (.cells #[.map (some (w.heap.size + 1))] 37)) (.cells #[.slice A0 l0.length c0] 22)
 have ne_ := heap_alloc_new w (.cells #[.int .i64 a1] 3)
 have hbW := below_alloc (below_alloc (below_alloc (below_alloc (Below.refl w.heap.size w) (.cells #[.int .i64 a1] 3)) (.map #[] 0)) (.cells #[.map (some (w.heap.size + 1))] 37)) (.cells #[.slice A0 l0.length c0] 22)
 have hsz : ((((w.alloc (.cells #[.int .i64 a1] 3)).alloc (.map #[] 0)).alloc (.cells #[.map (some (w.heap.size + 1))] 37)).alloc (.cells #[.slice A0 l0.length c0] 22)).heap.size = w.heap.size + 1 + 1 + 1 + 1 := by simp
 simp only [World.size_alloc] at nm_ ns_ nt_ ⊢
 have nm2 := (nm_.alloc (.cells #[.map (some (w.heap.size + 1))] 37)).alloc (.cells #[.slice A0 l0.length c0] 22)
 have ns2 := blk_alloc ns_ (.cells #[.slice A0 l0.length c0] 22)
 have ne2 := blk_alloc (blk_alloc (blk_alloc ne_ (.map #[] 0)) (.cells #[.map (some (w.heap.size + 1))] 37)) (.cells #[.slice A0 l0.length c0] 22)
 generalize ((((w.alloc (.cells #[.int .i64 a1] 3)).alloc (.map #[] 0)).alloc (.cells #[.map (some (w.heap.size + 1))] 37)).alloc (.cells #[.slice A0 l0.length c0] 22)) = W0 at *
 clear nm_ ns_ ne_
 rename_i Q' K hK
 have h0 : ids_I w (w.heap.size + 1) (w.heap.size + 1 + 1) (fun W => W.heap[w.heap.size]? = some (.cells #[.int .i64 a1] 3 (0, 0))) (roster_Parts.g a1) [] W0 := ⟨ns2, ⟨.map [], 0, Nat.le_refl _, nm2, seen_nil rfl⟩, hbW, ne2⟩
 refine wpIn_rangeFunc_ownH rfl (by omega) (gf := 34) (lb := #[.pointer (some ⟨w.heap.size + 1 + 1 + 1, 0, none⟩)]) rfl trivial (enters_of Try.func34 (by kernel_rfl) rfl) (encs := fun x : {t : TT // wfT t} => tt_encs x.1) (Kp := Below w.heap.size)
  (titles_stopsP k A0 c0 l0 ts HT.out HL.out wfT HWF.out w HC.out (w.heap.size + 1 + 1 + 1) W0 hbW nt_) ?hKt ?hKb (Below.refl _ _) (fun _ => rfl) (ids_I w (w.heap.size + 1) (w.heap.size + 1 + 1) (fun W => W.heap[w.heap.size]? = some (.cells #[.int .i64 a1] 3 (0, 0))) (roster_Parts.g a1)) (fun _ _ _ => False) (ids_own hbW.size (by omega) ?he) (fun _ _ _ _ _ h => h.elim) h0
  (fun x a' W => ∃ bx, w.heap.size + 1 + 1 < bx ∧ W.heap[bx]? = some (.cells #[.int .i64 x.1.2.1, .int .i64 x.1.2.2.1, .int .i64 x.1.2.2.2.1, .string x.1.2.2.2.2] 41 (0, 0)) ∧ a' = { tmps := #[.slice A0 l0.length c0, .int .i64 a1, undef, .pointer (some ⟨w.heap.size, 0, none⟩), .slice none 0 0, .pointer (some ⟨w.heap.size + 1 + 1, 0, none⟩), undef, .pointer (some ⟨bx, 0, none⟩), .map (some (w.heap.size + 1)), .slice A0 l0.length c0, .func (.func 34) #[] #[.pointer (some ⟨w.heap.size + 1 + 1 + 1, 0, none⟩)], .string x.1.1, .agg #[.int .i64 x.1.2.1, .int .i64 x.1.2.2.1, .int .i64 x.1.2.2.2.1, .string x.1.2.2.2.2], undef, undef, undef, undef, undef, undef, undef, undef, undef, undef, undef, undef, undef, undef, undef, undef, undef], defers := [] }) ?hAx ?assign ?body ?done (fun _ _ _ _ _ _ h => h.elim)
 case hKt =>
  intro X Y Z h1 h2
  exact h1.trans h2
 case hKb =>
  intro W l o o' hl ho hc _
  exact (Below.refl w.heap.size W).grown (grownBy_putObj' W l o') (Nat.le_of_lt (Nat.lt_of_le_of_lt (Nat.le_trans hbW.size hl) (Array.getElem?_eq_some_iff.1 ho).1)) (fun k e => by cases e; exact Nat.le_trans hbW.size hl)
 case he =>
  exact fun _ W W' row h hg hr => blk_grown h hg (tt_row hr h)
 case hAx =>
  rintro x a' _ W W' row ⟨bx, h1, h2, h3⟩ hg hr
  exact ⟨bx, h1, blk_grown h2 hg (tt_row hr h2), h3⟩
 case assign =>
  rintro l pre x W K2 hi hK2
  simp only [tt_encs]
  gi_wp2
  exact hK2 _ _ ((KeepsOthers.alloc _ _).from _) ((Below.refl _ W).alloc hi.2.2.1.size _) ⟨blk_alloc hi.1 _, (by obtain ⟨D, n, hn, h2, h3⟩ := hi.2.1; exact ⟨D, n, hn, h2.alloc _, h3⟩), below_alloc hi.2.2.1 _, blk_alloc hi.2.2.2 _⟩ ⟨W.heap.size, blk_lt hi.1, heap_alloc_new _ _, rfl⟩
 case body =>
  rintro l pre x a' W hl ⟨rr, hrr⟩ ⟨h1, ⟨D, nD, hnD, h2, h3⟩, h4, h5⟩ ⟨bx, hbx, hx, rfl⟩ hlen
  obtain ⟨⟨s, r1, r2, r3, r4⟩, hwf⟩ := x
  have hwf2 : wfT (s, r1, r2, r3, r4) := hwf
  dsimp only at hx ⊢
  have c0 := (blk_cell hx 0).trans rfl
  have c1 := (blk_cell hx 1).trans rfl
  have c2 := (blk_cell hx 2).trans rfl
  have c3 := (blk_cell hx 3).trans rfl
  have cs := (blk_cell h1 0).trans rfl
  have hkey := Maps.keyOf_int_mk Try.underlying3 hwf2.2
  have HL0 := HL.out
  have HZ := Aside0.mk h4.size
  have HS := Aside0.mk h1
  have H4 := Aside0.mk h4
  have H3 := Aside0.mk h3
  clear hx h1 h4 h3
  have ce := (blk_cell h5 0).trans rfl
  by_cases q : r1 = 2
  ·subst q
   by_cases q2 : r2 = a1
   ·subst q2
    gi_wp2_with (first
     | (gi_at_lookup; refine wpListIn_lookup_own_int _ rfl _ _ 37 rfl 3 3 .i64 set_law Try.underlying37 Try.underlying3 (id_zero _) _ nD _ rfl h2 _ _ rfl hkey ?_; intro c hat hwc)
     | (gi_at_mapUpdate; refine wpListIn_mapUpdate_own _ rfl _ _ _ 37 rfl 3 3 set_law Try.underlying37 _ _ nD _ rfl h2 (by unfold maxLen; omega) _ _ _ rfl rfl hkey _ [] (plainElem_int Try.underlying3 (wrap64_wf _)) ?_; intro w1 hown1 hgrow1))
    exact ⟨KeepsFrom.of_grownBy hgrow1 (fun j e => by cases e; omega), (Below.refl _ W).grown hgrow1 HZ.out (fun k e => by cases e; omega), blk_grown HS.out hgrow1 (by simp), ⟨_, nD + 1, by rw [List.length_append, List.length_singleton]; omega, hown1, seen_iff (seen_put H3.out _ _) (fun n => (by rw [List.map_append]; exact (roster_Parts.g_in _ _ (s, 2, r2, r3, r4) _ (by simp)).symm))⟩, H4.out.grown hgrow1 HZ.out (fun k e => by cases e; omega), blk_grown h5 hgrow1 (by simp)⟩
   ·gi_wp2_with fail
    exact ⟨keeps_below (Below.refl _ _), Below.refl _ _, HS.out, ⟨_, nD, by rw [List.length_append]; omega, h2, seen_iff H3.out (fun n => (by rw [List.map_append]; exact (roster_Parts.g_out _ _ (s, 2, r2, r3, r4) _ (by simp [q2])).symm))⟩, H4.out, h5⟩
  ·gi_wp2_with fail
   exact ⟨keeps_below (Below.refl _ _), Below.refl _ _, HS.out, ⟨_, nD, by rw [List.length_append]; omega, h2, seen_iff H3.out (fun n => (by rw [List.map_append]; exact (roster_Parts.g_out _ _ (s, r1, r2, r3, r4) _ (by simp [q])).symm))⟩, H4.out, h5⟩
 case done =>
  rintro D ys W hD hys ⟨h1, ⟨Dm, nD, hnD, h2, h3⟩, h4, h5⟩ hDk
  refine hK _ _ ?_
  have cs := (blk_cell h1 0).trans rfl
  have hly : ys.length = l0.length := by rw [← HLN.out, ← hys, List.length_map]
  have HL0 := HL.out
  rw [hys] at h3
  have hS := id_sorted _ nD Dm (idOf ((roster_Parts.g a1) ts)) (by omega) (idOf_rise _) (seen_iff h3 (fun n => (mem_idOf _ n).symm)) W h2
  gi_wp2_with (first
   | (refine ⟨trivial, ?_⟩; gi_at_call 22; refine (callsIn_wide.2 (id_keys _ _)).mono ?_; rintro e w4 ⟨rfl, rfl⟩)
   | (refine ⟨trivial, ?_⟩; gi_at_call 21; refine (callsIn_wide.2 hS).mono ?_; rintro e w5 ⟨v, rfl, ho, hb5⟩))
  refine ⟨by simp, .inl ⟨_, _, rfl, run_takeDeferred (blk_below hDk hb5), ⟨_, results_tmp rfl _ _ _, v, rfl, ?_, ?_⟩⟩⟩
  ·refine Kd.R_of_own ((own_weaken ho h4.size).kept (grownBy_putObj' w5 D (.deferred none)) (.inr (fun e => ?_))) (fun _ _ => trivial)
   have := own_base ho _ e
   have := blk_lt hDk
   omega
  ·exact (below_step h4 hb5).grown (grownBy_putObj' w5 D (.deferred none)) (below_step h4 hb5).size (fun k e => by cases e; exact Nat.le_trans hbW.size hD)
/-! ### styluslaw31_lives: function 5 -/
def styluslaw31_lives.f (k : Nat)  : Option (Bool) := (roster_Parts.f k (([(⟨#[108, 111, 103, 45, 48, 48, 48, 48, 48, 49, 45, 48, 48, 48, 48]⟩ : ByteArray)] : List ByteArray)) 1).bind fun t149 => (if (t149.length : Int) = 1 then (if 0 < (t149.length : Int) then (if (rd t149 0) = 0 then ((roster_Ours.f k (([(⟨#[97]⟩ : ByteArray), (⟨#[99, 104, 101, 99, 107, 45, 48, 48, 48, 48, 48, 48]⟩ : ByteArray)] : List ByteArray))).bind fun t156 => (some t156)) else (none)) else (none)) else (none))
theorem styluslaw31_lives.mono : ∀ k, LeO (styluslaw31_lives.f k ) (styluslaw31_lives.f (k + 1) ) := by
 intro  k
 unfold styluslaw31_lives.f
 repeat' first
   | (with_reducible exact roster_Ours.mono _ _)
   | (with_reducible exact roster_Parts.mono _ _ _)
   | (with_reducible exact LeO.refl _)
   | (with_reducible exact LeO.none _)
   | (with_reducible refine LeO.ite ?_ ?_)
   | (with_reducible refine LeO.bind ?_ (fun _ => ?_))
   | exact roster_Ours.mono _ _
   | exact roster_Parts.mono _ _ _
   | exact LeO.none _
   | refine LeO.ite ?_ ?_
   | refine LeO.bind ?_ (fun _ => ?_)
set_option maxHeartbeats 8000000 in
set_option maxRecDepth 100000 in
theorem styluslaw31_lives.calls (k : Nat)  (r : Bool) (w : World) (h : styluslaw31_lives.f k  = some r) :
  Calls Try.prog 5 #[] w fun e w' => e = .returned (.bool r) ∧ Below w.heap.size w w' := by
 have HB := Aside0.mk (Below.refl w.heap.size w)
 have H : ((roster_Parts.f k (([(⟨#[108, 111, 103, 45, 48, 48, 48, 48, 48, 49, 45, 48, 48, 48, 48]⟩ : ByteArray)] : List ByteArray)) 1).bind fun t149 => (if (t149.length : Int) = 1 then (if 0 < (t149.length : Int) then (if (rd t149 0) = 0 then ((roster_Ours.f k (([(⟨#[97]⟩ : ByteArray), (⟨#[99, 104, 101, 99, 107, 45, 48, 48, 48, 48, 48, 48]⟩ : ByteArray)] : List ByteArray))).bind fun t156 => (some t156)) else (none)) else (none)) else (none))) = some r := h
 clear h
 obtain ⟨y146, hy146⟩ : ∃ y_ : List ByteArray, y_ = (([(⟨#[108, 111, 103, 45, 48, 48, 48, 48, 48, 49, 45, 48, 48, 48, 48]⟩ : ByteArray)] : List ByteArray)) := ⟨_, rfl⟩
 replace H : ((roster_Parts.f k y146 1).bind fun t149 => (if (t149.length : Int) = 1 then (if 0 < (t149.length : Int) then (if (rd t149 0) = 0 then ((roster_Ours.f k (([(⟨#[97]⟩ : ByteArray), (⟨#[99, 104, 101, 99, 107, 45, 48, 48, 48, 48, 48, 48]⟩ : ByteArray)] : List ByteArray))).bind fun t156 => (some t156)) else (none)) else (none)) else (none))) = some r := by first | (rw [hy146]; with_reducible exact H) | (have H2_ := (Option.bind_some _ _).symm.trans H; rw [hy146]; with_reducible exact H2_) | (have H2_ := (Option.bind_some _ _).symm.trans H; with_reducible exact H2_) | with_reducible exact H | (rw [hy146]; exact H) | exact H
 have Ny146 := Aside0.mk hy146
 clear hy146
 replace H := Option.bind_eq_some_iff.mp H
 obtain ⟨t149, A10, H⟩ := H
 replace H : (if (t149.length : Int) = 1 then (if 0 < (t149.length : Int) then (if (rd t149 0) = 0 then ((roster_Ours.f k (([(⟨#[97]⟩ : ByteArray), (⟨#[99, 104, 101, 99, 107, 45, 48, 48, 48, 48, 48, 48]⟩ : ByteArray)] : List ByteArray))).bind fun t156 => (some t156)) else (none)) else (none)) else (none)) = some r := H
 have A1 := Aside0.mk A10
 clear A10
 by_cases c2 : (t149.length : Int) = 1
 ·rw [if_pos c2] at H
  have c2b0 : ((t149.length : Int) == 1) = true := beq_iff_eq.mpr c2
  have c2b1 : ((t149.length : Int) != 1) = false := bne_eq_false_iff_eq.mpr c2
  clear c2
  by_cases c3 : 0 < (t149.length : Int)
  ·rw [if_pos c3] at H
   have c3b0 : decide (0 < (t149.length : Int)) = true := decide_eq_true c3
   have c3b1 : decide (0 < t149.length) = true := decide_eq_true (by omega)
   clear c3
   by_cases c4 : (rd t149 0) = 0
   ·rw [if_pos c4] at H
    have c4b0 : ((rd t149 0) == 0) = true := beq_iff_eq.mpr c4
    have c4b1 : ((rd t149 0) != 0) = false := bne_eq_false_iff_eq.mpr c4
    clear c4
    obtain ⟨y153, hy153⟩ : ∃ y_ : List ByteArray, y_ = (([(⟨#[97]⟩ : ByteArray), (⟨#[99, 104, 101, 99, 107, 45, 48, 48, 48, 48, 48, 48]⟩ : ByteArray)] : List ByteArray)) := ⟨_, rfl⟩
    replace H : ((roster_Ours.f k y153).bind fun t156 => (some t156)) = some r := by first | (rw [hy153]; with_reducible exact H) | (have H2_ := (Option.bind_some _ _).symm.trans H; rw [hy153]; with_reducible exact H2_) | (have H2_ := (Option.bind_some _ _).symm.trans H; with_reducible exact H2_) | with_reducible exact H | (rw [hy153]; exact H) | exact H
    have Ny153 := Aside0.mk hy153
    clear hy153
    replace H := Option.bind_eq_some_iff.mp H
    obtain ⟨t156, A50, H⟩ := H
    replace H : (some t156) = some r := H
    have A5 := Aside0.mk A50
    clear A50
    obtain rfl := Option.some.inj H
    go_enter Try.func5, Try.ntmps5
    go_wp2_with (first | ((with_reducible refine gate_dst (N := 2) rfl ?_); (try (refine gate_guard (by rfl) ?_; dsimp only)); refine Kd.R_lit Kd.string _ 9 ?hg (N := 2) ?hd (xs := ([(⟨#[108, 111, 103, 45, 48, 48, 48, 48, 48, 49, 45, 48, 48, 48, 48]⟩ : ByteArray)] : List ByteArray)) (inner := [.string (⟨#[108, 111, 103, 45, 48, 48, 48, 48, 48, 49, 45, 48, 48, 48, 48]⟩ : ByteArray)]) (ok := fun _ => True) (okp := fun _ => True) ?hr ?hp (fun _ hk => hk) trivial (Below.refl _ _) (Nat.le_refl _) (by simp) ?_; (case hd => rfl); (case hg => rfl); (case hr => first | (go_simp; done) | (go_simp; rfl)); (case hp => exact (Reps.one (show Kd.M Kd.string _ _ _ (⟨#[108, 111, 103, 45, 48, 48, 48, 48, 48, 49, 45, 48, 48, 48, 48]⟩ : ByteArray) [.string (⟨#[108, 111, 103, 45, 48, 48, 48, 48, 48, 49, 45, 48, 48, 48, 48]⟩ : ByteArray)] from rfl) (Reps.none _ _))); intro v147 w6 ho7 hb hg_ hnew_; clear hg_ hnew_; (first | rw [← Ny146.out] at ho7 | (simp only [Int.reduceToNat] at ho7; rw [← Ny146.out] at ho7)); have n0_ := Aside0.mk (Kd.R_lower ho7 (below_size (by repeat (first | (with_reducible first | exact HB.out | apply below_alloc | apply pw_below_drewN | apply below_drew1) | exact HB.out)))); have n1_ := Aside0.mk (below_step (by repeat (first | (with_reducible first | exact HB.out | apply below_alloc | apply pw_below_drewN | apply below_drew1) | exact HB.out)) hb); clear HB; have HO148 := n0_; have HB := n1_; clear n0_ n1_; clear hb ho7; obtain ⟨Ao8, co8, eo8⟩ := Kd.R_slice HO148.out; subst eo8) | ((with_reducible refine gate_callee (f := 9) rfl ?_); refine goesL_ (some 3) rfl rfl Try.func9 (by kernel_rfl) rfl #[.slice Ao8 y146.length co8, .int .i64 1] rfl (by (try simp only [List.map_toArray, List.map_cons, List.map_nil]); first | done | rfl | (simp only [List.length_drop, List.length_take]; rfl)) ?_; (with_reducible refine (roster_Parts.calls k _ _ y146 1 t149 _ ?side1 ?side2 A1.out).mono ?_); (case side1 => repeat (first | exact (Kd.R_reads' HO148.out).2.2 | (with_reducible refine Kd.C_alloc ?_ _) | (with_reducible refine Kd.C_drewN ?_ _) | (with_reducible refine Kd.C_drew ?_))); (case side2 => exact (Kd.R_reads' HO148.out).2.1); rintro e w9 ⟨v150, rfl, ho0, hb⟩; refine ⟨_, rfl, ?_⟩; have n0_ := Aside0.mk (Kd.R_below (by (with_reducible repeat (first | apply Kd.R_alloc | apply Kd.R_drewN | apply Kd.R_drew)); exact HO148.out) hb); have n1_ := Aside0.mk (Kd.R_lower ho0 (below_size (by repeat (first | (with_reducible first | exact HB.out | apply below_alloc | apply pw_below_drewN | apply below_drew1) | exact HB.out)))); have n2_ := Aside0.mk (below_step (by repeat (first | (with_reducible first | exact HB.out | apply below_alloc | apply pw_below_drewN | apply below_drew1) | exact HB.out)) hb); clear HO148; clear HB; have HO148 := n0_; have HO151 := n1_; have HB := n2_; clear n0_ n1_ n2_; (try clear hb); (try clear hb2); (try clear hk); (try clear hi); (try clear ho0); obtain ⟨Ao10, co10, eo10⟩ := Kd.R_slice HO151.out; subst eo10; have p152 : 0 ≤ (0 : Int) := (by omega); have q152 : 0 < (t149.length : Int) := of_decide_eq_true (by first | (with_reducible assumption) | assumption); obtain ⟨ad152, e152, hx152_0⟩ := Kd.at_int (Kd.R_reads' HO151.out).2.2 0 p152 q152; cases e152; have qi152 : (0 < t149.length) = True := eq_true (by omega); (try rw [show ((0 : Int)).toNat = 0 from rfl] at hx152_0); (try rw [Addr.add_zero'] at hx152_0); replace p152 := eq_true p152; replace q152 := eq_true q152) | ((with_reducible refine gate_dst (N := 14) rfl ?_); (try (refine gate_guard (by rfl) ?_; dsimp only)); refine Kd.R_lit Kd.string _ 9 ?hg (N := 14) ?hd (xs := ([(⟨#[97]⟩ : ByteArray), (⟨#[99, 104, 101, 99, 107, 45, 48, 48, 48, 48, 48, 48]⟩ : ByteArray)] : List ByteArray)) (inner := [.string (⟨#[97]⟩ : ByteArray), .string (⟨#[99, 104, 101, 99, 107, 45, 48, 48, 48, 48, 48, 48]⟩ : ByteArray)]) (ok := fun _ => True) (okp := fun _ => True) ?hr ?hp (fun _ hk => hk) trivial (Below.refl _ _) (Nat.le_refl _) (by simp) ?_; (case hd => rfl); (case hg => rfl); (case hr => first | (go_simp; done) | (go_simp; rfl)); (case hp => exact (Reps.one (show Kd.M Kd.string _ _ _ (⟨#[97]⟩ : ByteArray) [.string (⟨#[97]⟩ : ByteArray)] from rfl) (Reps.one (show Kd.M Kd.string _ _ _ (⟨#[99, 104, 101, 99, 107, 45, 48, 48, 48, 48, 48, 48]⟩ : ByteArray) [.string (⟨#[99, 104, 101, 99, 107, 45, 48, 48, 48, 48, 48, 48]⟩ : ByteArray)] from rfl) (Reps.none _ _)))); intro v154 w11 ho12 hb hg_ hnew_; clear hg_ hnew_; (first | rw [← Ny153.out] at ho12 | (simp only [Int.reduceToNat] at ho12; rw [← Ny153.out] at ho12)); have n0_ := Aside0.mk (Kd.R_elder' (by (with_reducible repeat (first | apply Kd.R_alloc | apply Kd.R_drewN | apply Kd.R_drew)); exact HO148.out) (Kd.R_base ho12) hb); have n1_ := Aside0.mk (Kd.R_below (by (with_reducible repeat (first | apply Kd.R_alloc | apply Kd.R_drewN | apply Kd.R_drew)); exact HO151.out) hb); have n2_ := Aside0.mk (Kd.R_lower (Kd.R_new' ho12 (Kd.R_lt (by (with_reducible repeat (first | apply Kd.R_alloc | apply Kd.R_drewN | apply Kd.R_drew)); exact HO148.out))) (below_size (by repeat (first | (with_reducible first | exact HB.out | apply below_alloc | apply pw_below_drewN | apply below_drew1) | exact HB.out)))); have n3_ := Aside0.mk (below_step (by repeat (first | (with_reducible first | exact HB.out | apply below_alloc | apply pw_below_drewN | apply below_drew1) | exact HB.out)) hb); clear HO148; clear HO151; clear HB; have HO148 := n0_; have HO151 := n1_; have HO155 := n2_; have HB := n3_; clear n0_ n1_ n2_ n3_; clear hb ho12; obtain ⟨Ao13, co13, eo13⟩ := Kd.R_slice HO155.out; subst eo13) | (go_at_call 16; (with_reducible refine (roster_Ours.calls k _ _ y153 t156 _ ?side1 ?side2 A5.out).mono ?_); (case side1 => repeat (first | exact (Kd.R_reads' HO155.out).2.2 | (with_reducible refine Kd.C_alloc ?_ _) | (with_reducible refine Kd.C_drewN ?_ _) | (with_reducible refine Kd.C_drew ?_))); (case side2 => exact (Kd.R_reads' HO155.out).2.1); rintro e w14 ⟨rfl, hb⟩; have n0_ := Aside0.mk (Kd.R_below (by (with_reducible repeat (first | apply Kd.R_alloc | apply Kd.R_drewN | apply Kd.R_drew)); exact HO148.out) hb); have n1_ := Aside0.mk (Kd.R_below (by (with_reducible repeat (first | apply Kd.R_alloc | apply Kd.R_drewN | apply Kd.R_drew)); exact HO151.out) hb); have n2_ := Aside0.mk (Kd.R_below (by (with_reducible repeat (first | apply Kd.R_alloc | apply Kd.R_drewN | apply Kd.R_drew)); exact HO155.out) hb); have n3_ := Aside0.mk (below_step (by repeat (first | (with_reducible first | exact HB.out | apply below_alloc | apply pw_below_drewN | apply below_drew1) | exact HB.out)) hb); clear HO148; clear HO151; clear HO155; clear HB; have HO148 := n0_; have HO151 := n1_; have HO155 := n2_; have HB := n3_; clear n0_ n1_ n2_ n3_; (try clear hb); (try clear hb2); (try clear hk); (try clear hi)))
    go_ret
    exact ⟨by first | rfl | (simp [errW_none, errW_some] <;> rfl) | (simp [*, errW_none, errW_some] <;> rfl), by repeat (first | (with_reducible first | exact HB.out | apply below_alloc | apply pw_below_drewN | apply below_drew1) | exact HB.out)⟩
   ·rw [if_neg c4] at H
    exact absurd H (by simp)
  ·rw [if_neg c3] at H
   exact absurd H (by simp)
 ·rw [if_neg c2] at H
  exact absurd H (by simp)
/-! ### stylusref31_Ints: function 6 -/
def stylusref31_Ints.l0 : Nat → List Int → List Int → Int → Option (Bool)
 | 0, _, _, _ => none
 | k + 1, x0, x1, x5 => if x5 < (x0.length : Int) then (if 0 ≤ x5 then (if x5 < (x1.length : Int) then (if (rd x0 x5) = (rd x1 x5) then (stylusref31_Ints.l0 k x0 x1 (wrap64 (x5 + 1))) else (some false)) else (none)) else (none)) else (some true)
def stylusref31_Ints.f (k : Nat) (l0 : List Int) (l1 : List Int) : Option (Bool) := if (l0.length : Int) = (l1.length : Int) then (stylusref31_Ints.l0 k l0 l1 0) else (some false)
set_option maxHeartbeats 8000000 in
set_option maxRecDepth 100000 in
theorem stylusref31_Ints.calls (k : Nat) (A0 : Option Addr) (c0 : Nat) (l0 : List Int) (A1 : Option Addr) (c1 : Nat) (l1 : List Int) (r : Bool) (w : World) (hr0 : Kd.C (Kd.int .i64) w A0 l0.length l0) (hc0 : l0.length ≤ c0) (hr1 : Kd.C (Kd.int .i64) w A1 l1.length l1) (hc1 : l1.length ≤ c1) (h : stylusref31_Ints.f k l0 l1 = some r) :
  Calls Try.prog 6 #[.slice A0 l0.length c0, .slice A1 l1.length c1] w fun e w' => e = .returned (.bool r) ∧ Drawn0 w w' := by
 have HR0 := Aside0.mk hr0
 have HC0 := Aside0.mk hc0
 clear hr0 hc0
 have HR1 := Aside0.mk hr1
 have HC1 := Aside0.mk hc1
 clear hr1 hc1
 have H : (if (l0.length : Int) = (l1.length : Int) then (stylusref31_Ints.l0 k l0 l1 0) else (some false)) = some r := h
 clear h
 by_cases c3 : (l0.length : Int) = (l1.length : Int)
 ·rw [if_pos c3] at H
  have c3b0 : ((l0.length : Int) == (l1.length : Int)) = true := beq_iff_eq.mpr c3
  have c3b1 : ((l0.length : Int) != (l1.length : Int)) = false := bne_eq_false_iff_eq.mpr c3
  have c3b2 : (l0.length == l1.length) = true := by first | simpa using c3 | (simp at c3 ⊢; omega)
  clear c3
  have H' := Aside0.mk H
  clear H
  go_enter Try.func6, Try.ntmps6
  go_wp2
  repeat (go_quiet (fail); try go_wp2)
  go_loopg [5] k (fun kq v5 w' => ∃ (x5_1 : Int), v5 = .int .i64 x5_1 ∧ Aside0 (stylusref31_Ints.l0 kq l0 l1 x5_1 = some r) ∧ Aside0 (kq ≤ k) ∧ Drawn0 w w')
  case atStart => exact ⟨(0), (by first | rfl | (simp; done) | (simp [*]; done)), H', ⟨Nat.le_refl _⟩, by repeat (first | exact Drawn0.refl _ | apply Drawn0.step)⟩
  case round =>
   clear H'
   try clear c1
   try clear p2
   try clear c3
   try clear c3b0
   try clear c3b1
   try clear c3b2
   obtain ⟨x5_1, rfl, HA, HK1, ⟨m1, rfl⟩⟩ := hrel
   cases gk with
   | zero => exact absurd HA.out (by simp [stylusref31_Ints.l0])
   | succ k1 =>
    have H := HA.out
    clear HA
    simp only [stylusref31_Ints.l0] at H
    by_cases c4 : x5_1 < (l0.length : Int)
    ·rw [if_pos c4] at H
     have c4b0 : decide (x5_1 < (l0.length : Int)) = true := decide_eq_true c4
     clear c4
     by_cases c5 : 0 ≤ x5_1
     ·rw [if_pos c5] at H
      have c5b0 : decide (0 ≤ x5_1) = true := decide_eq_true c5
      clear c5
      by_cases c6 : x5_1 < (l1.length : Int)
      ·rw [if_pos c6] at H
       have c6b0 : decide (x5_1 < (l1.length : Int)) = true := decide_eq_true c6
       clear c6
       by_cases c7 : (rd l0 x5_1) = (rd l1 x5_1)
       ·rw [if_pos c7] at H
        have c7b0 : ((rd l0 x5_1) == (rd l1 x5_1)) = true := beq_iff_eq.mpr c7
        have c7b1 : ((rd l0 x5_1) != (rd l1 x5_1)) = false := bne_eq_false_iff_eq.mpr c7
        clear c7
        have H' := Aside0.mk H
        clear H
        have p157 : 0 ≤ (x5_1 : Int) := of_decide_eq_true (by first | (with_reducible assumption) | assumption)
        have q157 : x5_1 < (l0.length : Int) := of_decide_eq_true (by first | (with_reducible assumption) | assumption)
        obtain ⟨ad157, e157, hx157_0⟩ := Kd.at_int HR0.out x5_1 p157 q157
        cases e157
        replace p157 := eq_true p157
        replace q157 := eq_true q157
        have p158 : 0 ≤ (x5_1 : Int) := of_decide_eq_true (by first | (with_reducible assumption) | assumption)
        have q158 : x5_1 < (l1.length : Int) := of_decide_eq_true (by first | (with_reducible assumption) | assumption)
        obtain ⟨ad158, e158, hx158_0⟩ := Kd.at_int HR1.out x5_1 p158 q158
        cases e158
        replace p158 := eq_true p158
        replace q158 := eq_true q158
        go_wp2
        repeat (go_quiet (fail); try go_wp2)
        go_roundg k1
        case measure => have := HK1.out; omega
        case rel => exact ⟨(wrap64 (x5_1 + 1)), (by first | rfl | (simp; done) | (simp [*]; done)), H', ⟨by have := HK1.out; omega⟩, by repeat (first | exact Drawn0.refl _ | apply Drawn0.step)⟩
       ·rw [if_neg c7] at H
        have c7b0 : ((rd l0 x5_1) == (rd l1 x5_1)) = false := beq_eq_false_iff_ne.mpr c7
        have c7b1 : ((rd l0 x5_1) != (rd l1 x5_1)) = true := bne_iff_ne.mpr c7
        obtain rfl := Option.some.inj H
        have p157 : 0 ≤ (x5_1 : Int) := of_decide_eq_true (by first | (with_reducible assumption) | assumption)
        have q157 : x5_1 < (l0.length : Int) := of_decide_eq_true (by first | (with_reducible assumption) | assumption)
        obtain ⟨ad157, e157, hx157_0⟩ := Kd.at_int HR0.out x5_1 p157 q157
        cases e157
        replace p157 := eq_true p157
        replace q157 := eq_true q157
        have p158 : 0 ≤ (x5_1 : Int) := of_decide_eq_true (by first | (with_reducible assumption) | assumption)
        have q158 : x5_1 < (l1.length : Int) := of_decide_eq_true (by first | (with_reducible assumption) | assumption)
        obtain ⟨ad158, e158, hx158_0⟩ := Kd.at_int HR1.out x5_1 p158 q158
        cases e158
        replace p158 := eq_true p158
        replace q158 := eq_true q158
        go_wp2
        repeat (go_quiet (fail); try go_wp2)
        go_ret
        exact ⟨by first | rfl | (simp; done) | (simp [*]; done), by repeat (first | exact Drawn0.refl _ | apply Drawn0.step)⟩
      ·rw [if_neg c6] at H
       exact absurd H (by simp)
     ·rw [if_neg c5] at H
      exact absurd H (by simp)
    ·rw [if_neg c4] at H
     have c4b0 : decide (x5_1 < (l0.length : Int)) = false := decide_eq_false c4
     clear c4
     obtain rfl := Option.some.inj H
     go_wp2
     repeat (go_quiet (fail); try go_wp2)
     go_ret
     exact ⟨by first | rfl | (simp; done) | (simp [*]; done), by repeat (first | exact Drawn0.refl _ | apply Drawn0.step)⟩
 ·rw [if_neg c3] at H
  have c3b0 : ((l0.length : Int) == (l1.length : Int)) = false := beq_eq_false_iff_ne.mpr c3
  have c3b1 : ((l0.length : Int) != (l1.length : Int)) = true := bne_iff_ne.mpr c3
  have c3b2 : (l0.length == l1.length) = false := by first | simpa using c3 | (simp at c3 ⊢; omega)
  obtain rfl := Option.some.inj H
  go_enter Try.func6, Try.ntmps6
  go_wp2
  repeat (go_quiet (fail); try go_wp2)
  go_ret
  exact ⟨by first | rfl | (simp; done) | (simp [*]; done), by repeat (first | exact Drawn0.refl _ | apply Drawn0.step)⟩
end Go.Proofs.Ytpdgmcmebpfbaaa.P
