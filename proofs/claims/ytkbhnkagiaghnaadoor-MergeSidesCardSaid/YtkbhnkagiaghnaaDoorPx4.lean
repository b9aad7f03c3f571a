import Derived.Test.YtkbhnkagiaghnaaDoorPx0
import Derived.Test.YtkbhnkagiaghnaaDoorPx3
namespace Go.Proofs.YtkbhnkagiaghnaaDoor.P
open Go.RowKit Go.Proofs.YtkbhnkagiaghnaaDoorW.PrintWords Go.Proofs.YtkbhnkagiaghnaaDoorW.PrintLast Go.Proofs.YtkbhnkagiaghnaaDoorW.PrintMore
attribute [local go_sem] max2_int min2_int max_two min_two max_three min_three max_four min_four   -- for this text's walks alone
set_option linter.unusedVariables false
set_option linter.unusedSimpArgs false
/-! ### merge_Pieces: function 8 -/
def pcOne (a b c : List ByteArray) (k i j n x y : Nat) : List S30 := if (n - k) + (x - i) + (y - j) = 0 then [] else [⟨(a.take n).drop k, (b.take x).drop i, (c.take y).drop j, false⟩]
theorem pcOne_len (a b c : List ByteArray) (k i j n x y : Nat) : (pcOne a b c k i j n x y).length ≤ 1 := by unfold pcOne; split <;> simp
def pcGo (a b c : List ByteArray) : List S38 → Nat → Nat → Nat → Option (List S30)
 | [], k, i, j => if k ≤ a.length ∧ i ≤ b.length ∧ j ≤ c.length then some (pcOne a b c k i j a.length b.length c.length) else none
 | p :: l, k, i, j => if ((k : Int) ≤ p.f0 ∧ p.f0 < a.length) ∧ ((i : Int) ≤ p.f1 ∧ p.f1 < b.length) ∧ ((j : Int) ≤ p.f2 ∧ p.f2 < c.length) then
   (pcGo a b c l (p.f0.toNat + 1) (p.f1.toNat + 1) (p.f2.toNat + 1)).map fun r => pcOne a b c k i j p.f0.toNat p.f1.toNat p.f2.toNat ++ (⟨(a.take (p.f0.toNat + 1)).drop p.f0.toNat, (a.take (p.f0.toNat + 1)).drop p.f0.toNat, (a.take (p.f0.toNat + 1)).drop p.f0.toNat, true⟩ : S30) :: r
  else none
def merge_Pieces.f (k : Nat) (l0 : List ByteArray) (l1 : List ByteArray) (l2 : List ByteArray) : Option (List S30) :=
 if l0.length ≤ 200 ∧ l1.length ≤ 200 ∧ l2.length ≤ 200 then (merge_sure.f k l0 l1 l2).bind fun l => if l.length ≤ 400 then pcGo l0 l1 l2 l 0 0 0 else none else some []
theorem pc_empty (A0 A1 A2 : Option Addr) (c0 c1 c2 n x y : Nat) (b z : Bool) (w : World) (hn : n ≤ 1000) (hx : x ≤ 1000) (hy : y ≤ 1000) (hz : decide (n + x + y = 0) = z) :
  Calls Tryd.prog 14 #[.agg #[.slice A0 n c0, .slice A1 x c1, .slice A2 y c2, .bool b]] w fun e w' => e = .returned (.bool z) ∧ Below w.heap.size w w' := by
 subst hz
 have huP := Tryd.underlying30
 have K := heap_alloc_new w (.cells #[.slice A0 n c0, .slice A1 x c1, .slice A2 y c2, .bool b] 30)
 have x0 := (blk_cell K 0).trans rfl
 have x1 := (blk_cell K 1).trans rfl
 have x2 := (blk_cell K 2).trans rfl
 have e1 : wrap64 ((n : Int) + (x : Int)) = ((n + x : Nat) : Int) := by unfold wrap64; omega
 have e2 : wrap64 (((n + x : Nat) : Int) + (y : Int)) = ((n + x + y : Nat) : Int) := by unfold wrap64; omega
 have KB := Aside0.mk (below_alloc (Below.refl w.heap.size w) (.cells #[.slice A0 n c0, .slice A1 x c1, .slice A2 y c2, .bool b] 30))
 have e3 : (wrap64 (wrap64 ((n : Int) + (x : Int)) + (y : Int)) == 0) = decide (n + x + y = 0) := by
  rw [e1, e2, Bool.eq_iff_iff, beq_iff_eq, decide_eq_true_iff]
  omega
 have E3 := Aside0.mk e3
 clear K hn hx hy e1 e2 e3
 go_enter Tryd.func14, Tryd.ntmps14
 go_wp2
 go_ret
 exact ⟨congrArg (fun b => Ending.returned (Value.bool b)) E3.out, KB.out⟩
theorem pc_next (k i j : Nat) (w : World) (hk : k ≤ 1000) (hi : i ≤ 1000) (hj : j ≤ 1000) :
  Calls Tryd.prog 15 #[.agg #[.int .i64 (k : Int), .int .i64 (i : Int), .int .i64 (j : Int)]] w fun e w' => e = .returned (.agg #[.int .i64 ((k + 1 : Nat) : Int), .int .i64 ((i + 1 : Nat) : Int), .int .i64 ((j + 1 : Nat) : Int)]) ∧ Below w.heap.size w w' := by
 have huP := Tryd.underlying38
 have e1 : wrap64 ((k : Int) + 1) = ((k + 1 : Nat) : Int) := by unfold wrap64; omega
 have e2 : wrap64 ((i : Int) + 1) = ((i + 1 : Nat) : Int) := by unfold wrap64; omega
 have e3 : wrap64 ((j : Int) + 1) = ((j + 1 : Nat) : Int) := by unfold wrap64; omega
 clear hk hi hj
 go_enter Tryd.func15, Tryd.ntmps15
 go_wp2
 refine bodyPost_ret (results_cell_row rfl _ _ (w.heap.size + 1) 38 #[.int .i64 ((k : Int) + 1), .int .i64 ((i : Int) + 1), .int .i64 ((j : Int) + 1)] (0, 0) _ rfl (by simpa using heap_alloc_new (w.alloc (.cells #[.int .i64 (k : Int), .int .i64 (i : Int), .int .i64 (j : Int)] 38)) (.cells #[.int .i64 ((k : Int) + 1), .int .i64 ((i : Int) + 1), .int .i64 ((j : Int) + 1)] 38)) huP rfl (by kernel_rfl)) rfl ?_
 exact ⟨rfl, below_alloc (below_alloc (Below.refl _ _) _) _⟩
structure PSt (w : World) (P Q : Nat → Prop) (A0 A1 A2 Aq : Option Addr) (c0 c1 c2 : Nat) (a b c : List ByteArray) (pl : List S38) (gq : Nat) (o : Option (Array Value)) (v : Value) (out : List S30) (W : World) : Prop where
 lt : w.heap.size + 5 ≤ W.heap.size
 pl_ : ∀ k, P k → k < w.heap.size
 qg : ∀ k, Q k → w.heap.size + 5 ≤ k ∧ k < W.heap.size
 b0 : W.heap[w.heap.size]? = some (.cells #[.slice A0 a.length c0] 22 (0, 0))
 b1 : W.heap[w.heap.size + 1]? = some (.cells #[.slice A1 b.length c1] 22 (0, 0))
 b2 : W.heap[w.heap.size + 2]? = some (.cells #[.slice A2 c.length c2] 22 (0, 0))
 row : Kd.N k30 30 W (w.heap.size + 5) (fun k => P k ∨ (w.heap.size + 5 ≤ k ∧ ¬ Q k)) v out
 pls : Kd.F k38 W Q Aq pl.length pl
 s0 : Kd.F Kd.string W P A0 a.length a
 s1 : Kd.F Kd.string W P A1 b.length b
 s2 : Kd.F Kd.string W P A2 c.length c
 pr : ∀ cs, o = some cs → w.heap.size + 5 ≤ gq ∧ W.heap[gq]? = some (.cells cs 38 (0, 0))
 low : Below w.heap.size w W
section
variable {w W W' : World} {P Q : Nat → Prop} {A0 A1 A2 Aq : Option Addr} {c0 c1 c2 : Nat} {a b c : List ByteArray} {pl : List S38} {gq : Nat} {o : Option (Array Value)} {v v' : Value} {out out' : List S30}
theorem PSt.set (h : PSt w P Q A0 A1 A2 Aq c0 c1 c2 a b c pl gq o v out W) (x : Nat) (h0 : w.heap.size + 3 ≤ x) (h1 : x < w.heap.size + 5) (j : Nat) (u : Value) : PSt w P Q A0 A1 A2 Aq c0 c1 c2 a b c pl gq o v out (W.setCell ⟨x, j, none⟩ u) :=
 ⟨by have := h.lt; simpa using this, h.pl_, fun k hk => by have := h.qg k hk; simpa using this, blk_far h.b0 (by simp; omega) u, blk_far h.b1 (by simp; omega) u, blk_far h.b2 (by simp; omega) u,
  Kd.N_far h.row (p := ⟨x, j, none⟩) (fun k hk => by rcases hk with hk | hk; (have := h.pl_ k hk; simp; omega); (have := hk.1; simp; omega)) u,
  Kd.F_far h.pls (p := ⟨x, j, none⟩) (fun k hk => by have := h.qg k hk; simp; omega) u,
  Kd.F_far h.s0 (p := ⟨x, j, none⟩) (fun k hk => by have := h.pl_ k hk; simp; omega) u, Kd.F_far h.s1 (p := ⟨x, j, none⟩) (fun k hk => by have := h.pl_ k hk; simp; omega) u, Kd.F_far h.s2 (p := ⟨x, j, none⟩) (fun k hk => by have := h.pl_ k hk; simp; omega) u,
  fun cs hc => ⟨(h.pr cs hc).1, blk_far (h.pr cs hc).2 (by have := (h.pr cs hc).1; simp; omega) u⟩, h.low.setCell (p := ⟨x, j, none⟩) (by simp; omega) u⟩
theorem PSt.below (h : PSt w P Q A0 A1 A2 Aq c0 c1 c2 a b c pl gq o v out W) (hb : Below W.heap.size W W') : PSt w P Q A0 A1 A2 Aq c0 c1 c2 a b c pl gq o v out W' :=
 ⟨Nat.le_trans h.lt hb.size, h.pl_, fun k hk => ⟨(h.qg k hk).1, Nat.lt_of_lt_of_le (h.qg k hk).2 hb.size⟩, blk_below h.b0 hb, blk_below h.b1 hb, blk_below h.b2 hb, Kd.N_below h.row hb, Kd.F_below h.pls hb, Kd.F_below h.s0 hb, Kd.F_below h.s1 hb, Kd.F_below h.s2 hb, fun cs hc => ⟨(h.pr cs hc).1, blk_below (h.pr cs hc).2 hb⟩, below_step h.low hb⟩
theorem PSt.grow (h : PSt w P Q A0 A1 A2 Aq c0 c1 c2 a b c pl gq o v out W) (hr : Kd.N k30 30 W' (w.heap.size + 5) (fun k => P k ∨ (w.heap.size + 5 ≤ k ∧ ¬ Q k)) v' out') (hb : Below (w.heap.size + 5) W W') (hg : W.grownBy W' v.ownBlock) : PSt w P Q A0 A1 A2 Aq c0 c1 c2 a b c pl gq o v' out' W' :=
 ⟨Nat.le_trans h.lt hb.size, h.pl_, fun k hk => ⟨(h.qg k hk).1, Nat.lt_of_lt_of_le (h.qg k hk).2 hb.size⟩, (hb.block _ (by omega)).trans h.b0, (hb.block _ (by omega)).trans h.b1, (hb.block _ (by omega)).trans h.b2, hr,
  Kd.F_grown h.pls hg (fun k hk e => by
   rcases h.row.1 k e.symm with h1 | h1
   ·have := h.pl_ k h1; have := (h.qg k hk).1; omega
   ·exact h1.2 hk),
  Kd.F_step h.s0 (fun k hk _ => hb.block k (by have := h.pl_ k hk; omega)), Kd.F_step h.s1 (fun k hk _ => hb.block k (by have := h.pl_ k hk; omega)), Kd.F_step h.s2 (fun k hk _ => hb.block k (by have := h.pl_ k hk; omega)),
  fun cs hc => ⟨(h.pr cs hc).1, (hg.block gq (blk_lt (h.pr cs hc).2) (Kd.N_ne h.row (h.pr cs hc).2 (by decide))).trans (h.pr cs hc).2⟩, h.low.trans (hb.mono (by omega))⟩
theorem PSt.drop (h : PSt w P Q A0 A1 A2 Aq c0 c1 c2 a b c pl gq o v out W) : PSt w P Q A0 A1 A2 Aq c0 c1 c2 a b c pl 0 none v out W := ⟨h.lt, h.pl_, h.qg, h.b0, h.b1, h.b2, h.row, h.pls, h.s0, h.s1, h.s2, (fun _ hc => by cases hc), h.low⟩
theorem PSt.hold (h : PSt w P Q A0 A1 A2 Aq c0 c1 c2 a b c pl gq o v out W) {cs : Array Value} {gb : Nat} (hb : W.heap[gb]? = some (.cells cs 38 (0, 0))) (hg : w.heap.size + 5 ≤ gb) : PSt w P Q A0 A1 A2 Aq c0 c1 c2 a b c pl gb (some cs) v out W := ⟨h.lt, h.pl_, h.qg, h.b0, h.b1, h.b2, h.row, h.pls, h.s0, h.s1, h.s2, (fun _ hc => by cases hc; exact ⟨hg, hb⟩), h.low⟩
end
theorem pc_info : (Tryd.prog.info? 30).map (fun i => (i.zero, i.size, i.bytes)) = some (some (.agg #[.slice none 0 0, .slice none 0 0, .slice none 0 0, .bool false]), 4, 80) := by kernel_rfl
theorem pc_infoS : (Tryd.prog.info? 9).map (fun i => (i.zero, i.size, i.bytes)) = some (some (.string ⟨#[]⟩), 1, 16) := by kernel_rfl
theorem pc_cut (P : Nat → Prop) (A1 : Option Addr) (c1 s j : Nat) (b : List ByteArray) (W : World) (h : Kd.F Kd.string W P A1 b.length b) (hs : s ≤ j) (hj : j ≤ b.length) (hc : b.length ≤ c1) :
  ∃ A2, (∀ W', (Instr.slice 22 (.slice A1 b.length c1) (some (.int .i64 (s : Int))) (some (.int .i64 (j : Int))) none).run Tryd.prog W' = .ok (.slice A2 (j - s) (c1 - s)) W') ∧ Kd.F Kd.string W P A2 ((b.take j).drop s).length ((b.take j).drop s) ∧ ((b.take j).drop s).length = j - s := by
 obtain ⟨i0, hi, hzz⟩ := Option.map_eq_some_iff.1 pc_infoS
 simp only [Prod.mk.injEq] at hzz
 have hl : ((b.take j).drop s).length = j - s := by rw [List.length_drop, List.length_take]; omega
 refine ⟨(if c1 = s then A1 else A1.map (·.add (s * 1))), fun W' => ?_, ?_, hl⟩
 ·have := cut_mid (P := Tryd.prog) 22 9 .i64 .i64 Tryd.underlying22 hi 1 hzz.2.1 A1 b.length c1 (s : Int) (j : Int) (Int.natCast_nonneg _) (by omega) (by omega) hc W'
  simpa using this
 ·exact Kd.F_cut (m := s) (c := c1) (Kd.F_take h hj) (by rw [List.length_take]; omega) (by rw [List.length_take]; omega)
set_option maxHeartbeats 16000000 in
set_option maxRecDepth 100000 in
theorem pc_ahead (w W : World) (P Q : Nat → Prop) (A0 A1 A2 Aq : Option Addr) (c0 c1 c2 k i j n x y g1 g2 g3 g4 : Nat) (a b c : List ByteArray) (pl : List S38) (gq : Nat) (o : Option (Array Value)) (N X Y : Int) (v : Value) (out : List S30) (hN : N = (n : Int)) (hX : X = (x : Int)) (hY : Y = (y : Int)) (hg1 : g1 = w.heap.size + 1) (hg2 : g2 = w.heap.size + 2) (hg3 : g3 = w.heap.size + 3) (hg4 : g4 = w.heap.size + 4) (h : PSt w P Q A0 A1 A2 Aq c0 c1 c2 a b c pl gq o v out W)
  (h3 : W.heap[w.heap.size + 3]? = some (.cells #[v] 25 (0, 0))) (h4 : W.heap[w.heap.size + 4]? = some (.cells #[.int .i64 (k : Int), .int .i64 (i : Int), .int .i64 (j : Int)] 38 (0, 0)))
  (hk : k ≤ n) (hi : i ≤ x) (hj : j ≤ y) (hn : n ≤ a.length) (hx : x ≤ b.length) (hy : y ≤ c.length) (ha : a.length ≤ 200) (hb : b.length ≤ 200) (hc : c.length ≤ 200) (hc0 : a.length ≤ c0) (hc1 : b.length ≤ c1) (hc2 : c.length ≤ c2) (ho : out.length ≤ 1000) :
  Calls Tryd.prog 13 #[.agg #[.int .i64 N, .int .i64 X, .int .i64 Y], .pointer (some ⟨w.heap.size, 0, none⟩), .pointer (some ⟨g4, 0, none⟩), .pointer (some ⟨g1, 0, none⟩), .pointer (some ⟨g2, 0, none⟩), .pointer (some ⟨g3, 0, none⟩)] W fun e W' => e = .returned (.tuple #[]) ∧ ∃ v', PSt w P Q A0 A1 A2 Aq c0 c1 c2 a b c pl gq o v' (out ++ pcOne a b c k i j n x y) W' ∧ W'.heap[w.heap.size + 3]? = some (.cells #[v'] 25 (0, 0)) ∧ W'.heap[w.heap.size + 4]? = some (.cells #[.int .i64 ((n + 1 : Nat) : Int), .int .i64 ((x + 1 : Nat) : Int), .int .i64 ((y + 1 : Nat) : Int)] 38 (0, 0)) := by
 subst hN
 subst hX
 subst hY
 subst hg1
 subst hg2
 subst hg3
 subst hg4
 have huP := Tryd.underlying30
 have huQ := Tryd.underlying38
 obtain ⟨Aa, hcut0, hF0, hL0⟩ := pc_cut P A0 c0 k n a W h.s0 hk hn hc0
 obtain ⟨Ab, hcut1, hF1, hL1⟩ := pc_cut P A1 c1 i x b W h.s1 hi hx hc1
 obtain ⟨Ac, hcut2, hF2, hL2⟩ := pc_cut P A2 c2 j y c W h.s2 hj hy hc2
 have HD := Aside0.mk h
 have H3 := Aside0.mk h3
 have H4 := Aside0.mk h4
 have HF0 := Aside0.mk hF0
 have HF1 := Aside0.mk hF1
 have HF2 := Aside0.mk hF2
 have HL0 := Aside0.mk hL0
 have HL1 := Aside0.mk hL1
 have HL2 := Aside0.mk hL2
 have HO := Aside0.mk ho
 have HK := Aside0.mk (And.intro hn (And.intro hx hy))
 have HCC := Aside0.mk (And.intro hc0 (And.intro hc1 hc2))
 have HA := Aside0.mk (And.intro ha (And.intro hb hc))
 clear h h3 h4 hF0 hF1 hF2 hL0 hL1 hL2 ho hn hx hy hc0 hc1 hc2 ha hb hc hk hi hj
 go_enter Tryd.func13, Tryd.ntmps13
 go_upto_region 1 with fail
 have BT := Aside0.mk (heap_alloc_new W (.cells #[.int .i64 (n : Int), .int .i64 (x : Int), .int .i64 (y : Int)] 38))
 have D0 := Aside0.mk (HD.out.below (below_alloc (Below.refl W.heap.size W) (.cells #[.int .i64 (n : Int), .int .i64 (x : Int), .int .i64 (y : Int)] 38)))
 have B3 := Aside0.mk (blk_alloc H3.out (.cells #[.int .i64 (n : Int), .int .i64 (x : Int), .int .i64 (y : Int)] 38))
 have B4 := Aside0.mk (blk_alloc H4.out (.cells #[.int .i64 (n : Int), .int .i64 (x : Int), .int .i64 (y : Int)] 38))
 have F0 := Aside0.mk (Kd.F_alloc HF0.out (.cells #[.int .i64 (n : Int), .int .i64 (x : Int), .int .i64 (y : Int)] 38))
 have F1 := Aside0.mk (Kd.F_alloc HF1.out (.cells #[.int .i64 (n : Int), .int .i64 (x : Int), .int .i64 (y : Int)] 38))
 have F2 := Aside0.mk (Kd.F_alloc HF2.out (.cells #[.int .i64 (n : Int), .int .i64 (x : Int), .int .i64 (y : Int)] 38))
 obtain ⟨Wb, hWb⟩ : ∃ Z : World, W.alloc (.cells #[.int .i64 (n : Int), .int .i64 (x : Int), .int .i64 (y : Int)] 38) = Z := ⟨_, rfl⟩
 rw [hWb] at BT D0 B3 B4 F0 F1 F2 ⊢
 have Hgt := Aside0.mk (show w.heap.size + 5 ≤ W.heap.size from HD.out.lt)
 obtain ⟨gt, hgt⟩ : ∃ g, W.heap.size = g := ⟨_, rfl⟩
 rw [hgt] at BT Hgt ⊢
 have B0 := Aside0.mk D0.out.b0
 have B1 := Aside0.mk D0.out.b1
 have B2 := Aside0.mk D0.out.b2
 clear hWb hgt HD H3 H4 HF0 HF1 HF2
 refine start_ (n := 21) (S := fun w' => w'.cell? ⟨w.heap.size, 0, none⟩ = some (.slice A0 a.length c0) ∧ w'.cell? ⟨w.heap.size + 1, 0, none⟩ = some (.slice A1 b.length c1) ∧ w'.cell? ⟨w.heap.size + 2, 0, none⟩ = some (.slice A2 c.length c2) ∧ w'.cell? ⟨w.heap.size + 4, 0, none⟩ = some (.int .i64 (k : Int)) ∧ w'.cell? ⟨w.heap.size + 4, 1, none⟩ = some (.int .i64 (i : Int)) ∧ w'.cell? ⟨w.heap.size + 4, 2, none⟩ = some (.int .i64 (j : Int)) ∧ w'.cell? ⟨gt, 0, none⟩ = some (.int .i64 (n : Int)) ∧ w'.cell? ⟨gt, 1, none⟩ = some (.int .i64 (x : Int)) ∧ w'.cell? ⟨gt, 2, none⟩ = some (.int .i64 (y : Int))) (ds := [20]) #[false, false, false, false, false, false, false, false, false, false, false, false, false, false, false, false, false, false, false, false, false] (by kernel_rfl) rfl rfl ⟨(blk_cell (blk_drew B0.out) 0).trans rfl, (blk_cell (blk_drew B1.out) 0).trans rfl, (blk_cell (blk_drew B2.out) 0).trans rfl, (blk_cell (blk_drew B4.out) 0).trans rfl, (blk_cell (blk_drew B4.out) 1).trans rfl, (blk_cell (blk_drew B4.out) 2).trans rfl, (blk_cell (blk_drew BT.out) 0).trans rfl, (blk_cell (blk_drew BT.out) 1).trans rfl, (blk_cell (blk_drew BT.out) 2).trans rfl⟩ (fun hHeld => ?_)
 refine pure_ (i := 1) (N := some 9) (v := ?_) (a' := ?_) #[false, true, false, false, false, false, false, false, false, false, false, false, false, false, false, false, false, false, false, false, false] rfl rfl (by kernel_rfl) (fun _ _ _ h => h) (Or.inl ⟨by rfl, ?_⟩) ?_ ?_
 rotate_left
 ·intro w'
  go_simp
  with_reducible rfl
 rotate_left
 ·simp only [Act.put, List.setIfInBounds_toArray, List.set_cons_zero, List.set_cons_succ, i64_w, i32_w]
  rfl
 refine pure_ (i := 3) (N := some 11) (v := ?_) (a' := ?_) #[false, true, false, true, false, false, false, false, false, false, false, false, false, false, false, false, false, false, false, false, false] rfl rfl (by kernel_rfl) (fun _ _ _ h => h) (Or.inl ⟨by rfl, ?_⟩) ?_ ?_
 rotate_left
 ·intro w'
  go_simp
  with_reducible rfl
 rotate_left
 ·simp only [Act.put, List.setIfInBounds_toArray, List.set_cons_zero, List.set_cons_succ, i64_w, i32_w]
  rfl
 refine pure_ (i := 7) (N := some 15) (v := ?_) (a' := ?_) #[false, true, false, true, false, false, false, true, false, false, false, false, false, false, false, false, false, false, false, false, false] rfl rfl (by kernel_rfl) (fun _ _ _ h => h) (Or.inl ⟨by rfl, ?_⟩) ?_ ?_
 rotate_left
 ·intro w'
  go_simp
  with_reducible rfl
 rotate_left
 ·simp only [Act.put, List.setIfInBounds_toArray, List.set_cons_zero, List.set_cons_succ, i64_w, i32_w]
  rfl
 refine pure_ (i := 9) (N := some 17) (v := ?_) (a' := ?_) #[false, true, false, true, false, false, false, true, false, true, false, false, false, false, false, false, false, false, false, false, false] rfl rfl (by kernel_rfl) (fun _ _ _ h => h) (Or.inl ⟨by rfl, ?_⟩) ?_ ?_
 rotate_left
 ·intro w'
  go_simp
  with_reducible rfl
 rotate_left
 ·simp only [Act.put, List.setIfInBounds_toArray, List.set_cons_zero, List.set_cons_succ, i64_w, i32_w]
  rfl
 refine pure_ (i := 13) (N := some 21) (v := ?_) (a' := ?_) #[false, true, false, true, false, false, false, true, false, true, false, false, false, true, false, false, false, false, false, false, false] rfl rfl (by kernel_rfl) (fun _ _ _ h => h) (Or.inl ⟨by rfl, ?_⟩) ?_ ?_
 rotate_left
 ·intro w'
  go_simp
  with_reducible rfl
 rotate_left
 ·simp only [Act.put, List.setIfInBounds_toArray, List.set_cons_zero, List.set_cons_succ, i64_w, i32_w]
  rfl
 refine pure_ (i := 15) (N := some 23) (v := ?_) (a' := ?_) #[false, true, false, true, false, false, false, true, false, true, false, false, false, true, false, true, false, false, false, false, false] rfl rfl (by kernel_rfl) (fun _ _ _ h => h) (Or.inl ⟨by rfl, ?_⟩) ?_ ?_
 rotate_left
 ·intro w'
  go_simp
  with_reducible rfl
 rotate_left
 ·simp only [Act.put, List.setIfInBounds_toArray, List.set_cons_zero, List.set_cons_succ, i64_w, i32_w]
  rfl
 refine take_ (i := 0) (N := some 8) (v := ?_) (a' := ?_) #[true, true, false, true, false, false, false, true, false, true, false, false, false, true, false, true, false, false, false, false, false] rfl rfl (by kernel_rfl) (fun _ _ _ h => h) (Or.inl ⟨by rfl, ?_⟩) hHeld ?_ ?_
 rotate_left
 ·rintro w' ⟨s0, s1, s2, s3, s4, s5, s6, s7, s8⟩
  go_simp
  with_reducible rfl
 rotate_left
 ·simp only [Act.put, List.setIfInBounds_toArray, List.set_cons_zero, List.set_cons_succ, i64_w, i32_w]
  rfl
 refine take_ (i := 2) (N := some 10) (v := ?_) (a' := ?_) #[true, true, true, true, false, false, false, true, false, true, false, false, false, true, false, true, false, false, false, false, false] rfl rfl (by kernel_rfl) (fun _ _ _ h => h) (Or.inl ⟨by rfl, ?_⟩) hHeld ?_ ?_
 rotate_left
 ·rintro w' ⟨s0, s1, s2, s3, s4, s5, s6, s7, s8⟩
  go_simp
  with_reducible rfl
 rotate_left
 ·simp only [Act.put, List.setIfInBounds_toArray, List.set_cons_zero, List.set_cons_succ, i64_w, i32_w]
  rfl
 refine take_ (i := 4) (N := some 12) (v := ?_) (a' := ?_) #[true, true, true, true, true, false, false, true, false, true, false, false, false, true, false, true, false, false, false, false, false] rfl rfl (by kernel_rfl) (fun _ _ _ h => h) (Or.inl ⟨by rfl, ?_⟩) hHeld ?_ ?_
 rotate_left
 ·rintro w' ⟨s0, s1, s2, s3, s4, s5, s6, s7, s8⟩
  go_simp
  with_reducible rfl
 rotate_left
 ·simp only [Act.put, List.setIfInBounds_toArray, List.set_cons_zero, List.set_cons_succ, i64_w, i32_w]
  rfl
 refine pure_ (i := 5) (N := some 13) (v := ?_) (a' := ?_) #[true, true, true, true, true, true, false, true, false, true, false, false, false, true, false, true, false, false, false, false, false] rfl rfl (by kernel_rfl) (fun _ _ _ h => h) (Or.inl ⟨by rfl, ?_⟩) ?_ ?_
 rotate_left
 ·intro w'
  go_simp
  with_reducible rfl
 rotate_left
 ·simp only [Act.put, List.setIfInBounds_toArray, List.set_cons_zero, List.set_cons_succ, i64_w, i32_w]
  rfl
 refine take_ (i := 6) (N := some 14) (v := ?_) (a' := ?_) #[true, true, true, true, true, true, true, true, false, true, false, false, false, true, false, true, false, false, false, false, false] rfl rfl (by kernel_rfl) (fun _ _ _ h => h) (Or.inl ⟨by rfl, ?_⟩) hHeld ?_ ?_
 rotate_left
 ·rintro w' ⟨s0, s1, s2, s3, s4, s5, s6, s7, s8⟩
  go_simp
  with_reducible rfl
 rotate_left
 ·simp only [Act.put, List.setIfInBounds_toArray, List.set_cons_zero, List.set_cons_succ, i64_w, i32_w]
  rfl
 refine take_ (i := 8) (N := some 16) (v := ?_) (a' := ?_) #[true, true, true, true, true, true, true, true, true, true, false, false, false, true, false, true, false, false, false, false, false] rfl rfl (by kernel_rfl) (fun _ _ _ h => h) (Or.inl ⟨by rfl, ?_⟩) hHeld ?_ ?_
 rotate_left
 ·rintro w' ⟨s0, s1, s2, s3, s4, s5, s6, s7, s8⟩
  go_simp
  with_reducible rfl
 rotate_left
 ·simp only [Act.put, List.setIfInBounds_toArray, List.set_cons_zero, List.set_cons_succ, i64_w, i32_w]
  rfl
 refine take_ (i := 10) (N := some 18) (v := ?_) (a' := ?_) #[true, true, true, true, true, true, true, true, true, true, true, false, false, true, false, true, false, false, false, false, false] rfl rfl (by kernel_rfl) (fun _ _ _ h => h) (Or.inl ⟨by rfl, ?_⟩) hHeld ?_ ?_
 rotate_left
 ·rintro w' ⟨s0, s1, s2, s3, s4, s5, s6, s7, s8⟩
  go_simp
  with_reducible rfl
 rotate_left
 ·simp only [Act.put, List.setIfInBounds_toArray, List.set_cons_zero, List.set_cons_succ, i64_w, i32_w]
  rfl
 refine pure_ (i := 11) (N := some 19) (v := ?_) (a' := ?_) #[true, true, true, true, true, true, true, true, true, true, true, true, false, true, false, true, false, false, false, false, false] rfl rfl (by kernel_rfl) (fun _ _ _ h => h) (Or.inl ⟨by rfl, ?_⟩) ?_ ?_
 rotate_left
 ·intro w'
  go_simp
  with_reducible rfl
 rotate_left
 ·simp only [Act.put, List.setIfInBounds_toArray, List.set_cons_zero, List.set_cons_succ, i64_w, i32_w]
  rfl
 refine take_ (i := 12) (N := some 20) (v := ?_) (a' := ?_) #[true, true, true, true, true, true, true, true, true, true, true, true, true, true, false, true, false, false, false, false, false] rfl rfl (by kernel_rfl) (fun _ _ _ h => h) (Or.inl ⟨by rfl, ?_⟩) hHeld ?_ ?_
 rotate_left
 ·rintro w' ⟨s0, s1, s2, s3, s4, s5, s6, s7, s8⟩
  go_simp
  with_reducible rfl
 rotate_left
 ·simp only [Act.put, List.setIfInBounds_toArray, List.set_cons_zero, List.set_cons_succ, i64_w, i32_w]
  rfl
 refine take_ (i := 14) (N := some 22) (v := ?_) (a' := ?_) #[true, true, true, true, true, true, true, true, true, true, true, true, true, true, true, true, false, false, false, false, false] rfl rfl (by kernel_rfl) (fun _ _ _ h => h) (Or.inl ⟨by rfl, ?_⟩) hHeld ?_ ?_
 rotate_left
 ·rintro w' ⟨s0, s1, s2, s3, s4, s5, s6, s7, s8⟩
  go_simp
  with_reducible rfl
 rotate_left
 ·simp only [Act.put, List.setIfInBounds_toArray, List.set_cons_zero, List.set_cons_succ, i64_w, i32_w]
  rfl
 refine take_ (i := 16) (N := some 24) (v := ?_) (a' := ?_) #[true, true, true, true, true, true, true, true, true, true, true, true, true, true, true, true, true, false, false, false, false] rfl rfl (by kernel_rfl) (fun _ _ _ h => h) (Or.inl ⟨by rfl, ?_⟩) hHeld ?_ ?_
 rotate_left
 ·rintro w' ⟨s0, s1, s2, s3, s4, s5, s6, s7, s8⟩
  go_simp
  with_reducible rfl
 rotate_left
 ·simp only [Act.put, List.setIfInBounds_toArray, List.set_cons_zero, List.set_cons_succ, i64_w, i32_w]
  rfl
 refine pure_ (i := 17) (N := some 25) (v := ?_) (a' := ?_) #[true, true, true, true, true, true, true, true, true, true, true, true, true, true, true, true, true, true, false, false, false] rfl rfl (by kernel_rfl) (fun _ _ _ h => h) (Or.inl ⟨by rfl, ?_⟩) ?_ ?_
 rotate_left
 ·intro w'
  go_simp
  with_reducible rfl
 rotate_left
 ·simp only [Act.put, List.setIfInBounds_toArray, List.set_cons_zero, List.set_cons_succ, i64_w, i32_w]
  rfl
 refine pure_ (i := 18) (N := some 26) (v := ?_) (a' := ?_) #[true, true, true, true, true, true, true, true, true, true, true, true, true, true, true, true, true, true, true, false, false] rfl rfl (by kernel_rfl) (fun _ _ _ h => h) (Or.inl ⟨by rfl, ?_⟩) ?_ ?_
 rotate_left
 ·intro w'
  go_simp
  with_reducible rfl
 rotate_left
 ·simp only [Act.put, List.setIfInBounds_toArray, List.set_cons_zero, List.set_cons_succ, i64_w, i32_w]
  rfl
 refine one_ (i := 19) (N := some 7) #[true, true, true, true, true, true, true, true, true, true, true, true, true, true, true, true, true, true, true, true, false] rfl rfl (by kernel_rfl) (by decide) (fun K hK => ?_)
 refine value_ (w1 := ?_) (v := ?_) (by rfl) rfl ?_ ?_
 rotate_left 2
 ·go_simp
  constructor
  ·rfl
  ·rfl
 refine hK.out _ _ ⟨(blk_cell (blk_drew (blk_alloc B0.out _)) 0).trans rfl, (blk_cell (blk_drew (blk_alloc B1.out _)) 0).trans rfl, (blk_cell (blk_drew (blk_alloc B2.out _)) 0).trans rfl, (blk_cell (blk_drew (blk_alloc B4.out _)) 0).trans rfl, (blk_cell (blk_drew (blk_alloc B4.out _)) 1).trans rfl, (blk_cell (blk_drew (blk_alloc B4.out _)) 2).trans rfl, (blk_cell (blk_drew (blk_alloc BT.out _)) 0).trans rfl, (blk_cell (blk_drew (blk_alloc BT.out _)) 1).trans rfl, (blk_cell (blk_drew (blk_alloc BT.out _)) 2).trans rfl⟩ (fun hHeld => ?_)
 clear hK K
 refine norm_ (a' := ?_) ?_ ?_
 rotate_left
 ·show Act.put _ (some 7) _ = _
  simp only [Act.put, List.setIfInBounds_toArray, List.set_cons_zero, List.set_cons_succ, i64_w, i32_w]
  rfl
 refine last_ (i := 20) (N := none) #[true, true, true, true, true, true, true, true, true, true, true, true, true, true, true, true, true, true, true, true, true] rfl rfl (by kernel_rfl) (by decide) (fun K hK => ?_)
 refine skip_ (w1 := ?_) (by rfl) rfl ?_ ?_
 rotate_left
 ·go_simp
  rfl
 refine hK.out _ _ ?_
 clear hK K
 refine done_ (by kernel_rfl) ?_
 have PB := Aside0.mk (blk_drew (heap_alloc_new Wb (.cells #[.slice Aa (n - k) (c0 - k), .slice Ab (x - i) (c1 - i), .slice Ac (y - j) (c2 - j), .bool false] 30)))
 have D1 := Aside0.mk (D0.out.below (below_drew (below_alloc (Below.refl Wb.heap.size Wb) (.cells #[.slice Aa (n - k) (c0 - k), .slice Ab (x - i) (c1 - i), .slice Ac (y - j) (c2 - j), .bool false] 30))))
 have C3 := Aside0.mk (blk_drew (blk_alloc B3.out (.cells #[.slice Aa (n - k) (c0 - k), .slice Ab (x - i) (c1 - i), .slice Ac (y - j) (c2 - j), .bool false] 30)))
 have C4 := Aside0.mk (blk_drew (blk_alloc B4.out (.cells #[.slice Aa (n - k) (c0 - k), .slice Ab (x - i) (c1 - i), .slice Ac (y - j) (c2 - j), .bool false] 30)))
 have CT := Aside0.mk (blk_drew (blk_alloc BT.out (.cells #[.slice Aa (n - k) (c0 - k), .slice Ab (x - i) (c1 - i), .slice Ac (y - j) (c2 - j), .bool false] 30)))
 have G0 := Aside0.mk (Kd.F_drew (Kd.F_alloc F0.out (.cells #[.slice Aa (n - k) (c0 - k), .slice Ab (x - i) (c1 - i), .slice Ac (y - j) (c2 - j), .bool false] 30)))
 have G1 := Aside0.mk (Kd.F_drew (Kd.F_alloc F1.out (.cells #[.slice Aa (n - k) (c0 - k), .slice Ab (x - i) (c1 - i), .slice Ac (y - j) (c2 - j), .bool false] 30)))
 have G2 := Aside0.mk (Kd.F_drew (Kd.F_alloc F2.out (.cells #[.slice Aa (n - k) (c0 - k), .slice Ab (x - i) (c1 - i), .slice Ac (y - j) (c2 - j), .bool false] 30)))
 have Hgt2 := Aside0.mk (blk_lt BT.out)
 obtain ⟨m0, hm0⟩ : ∃ m, n - k = m := ⟨_, rfl⟩
 obtain ⟨m1, hm1⟩ : ∃ m, x - i = m := ⟨_, rfl⟩
 obtain ⟨m2, hm2⟩ : ∃ m, y - j = m := ⟨_, rfl⟩
 rw [hm0, hm1, hm2] at PB D1 C3 C4 CT G0 G1 G2 ⊢
 rw [hm0] at HL0
 rw [hm1] at HL1
 rw [hm2] at HL2
 have HM0 := Aside0.mk hm0
 have HM1 := Aside0.mk hm1
 have HM2 := Aside0.mk hm2
 obtain ⟨W1, hW1⟩ : ∃ Z : World, (Wb.alloc (.cells #[.slice Aa m0 (c0 - k), .slice Ab m1 (c1 - i), .slice Ac m2 (c2 - j), .bool false] 30)).drew = Z := ⟨_, rfl⟩
 rw [hW1] at PB D1 C3 C4 CT G0 G1 G2 ⊢
 obtain ⟨gp, hgp⟩ : ∃ g, Wb.heap.size = g := ⟨_, rfl⟩
 rw [hgp] at PB Hgt2 ⊢
 have Hgp := Aside0.mk (show w.heap.size + 5 ≤ gp by rw [← hgp]; exact D0.out.lt)
 obtain ⟨z, hz⟩ : ∃ z, decide (m0 + m1 + m2 = 0) = z := ⟨_, rfl⟩
 have HZ := Aside0.mk hz
 clear hW1 hgp hm0 hm1 hm2 hz D0 B0 B1 B2 B3 B4 BT F0 F1 F2 hHeld hcut0 hcut1 hcut2
 have p0 := (blk_cell PB.out 0).trans rfl
 have p1 := (blk_cell PB.out 1).trans rfl
 have p2 := (blk_cell PB.out 2).trans rfl
 have p3 := (blk_cell PB.out 3).trans rfl
 cases z with
 | true =>
  have HOne : Aside0 (pcOne a b c k i j n x y = []) := ⟨if_pos (by rw [HM0.out, HM1.out, HM2.out]; exact of_decide_eq_true HZ.out)⟩
  go_upto_region 4 with (go_at_call 14; (with_reducible refine (pc_empty Aa Ab Ac (c0 - k) (c1 - i) (c2 - j) m0 m1 m2 false true _ (by have := HM0.out; have := HK.out; have := HA.out; omega) (by have := HM1.out; have := HK.out; have := HA.out; omega) (by have := HM2.out; have := HK.out; have := HA.out; omega) HZ.out).mono ?_); rintro e W2 ⟨rfl, hb⟩; have D2 := Aside0.mk (D1.out.below hb); have C3 := Aside0.mk (blk_below C3.out hb); have C4 := Aside0.mk (blk_below C4.out hb); have CT := Aside0.mk (blk_below CT.out hb); clear hb)
  have t0 := (blk_cell CT.out 0).trans rfl
  have t1 := (blk_cell CT.out 1).trans rfl
  have t2 := (blk_cell CT.out 2).trans rfl
  go_wp2_with (go_at_call 15; (with_reducible refine (pc_next n x y _ (by have := HK.out; have := HA.out; omega) (by have := HK.out; have := HA.out; omega) (by have := HK.out; have := HA.out; omega)).mono ?_); rintro e W3 ⟨rfl, hb⟩; have D3 := Aside0.mk (D2.out.below hb); have C3 := Aside0.mk (blk_below C3.out hb); have C4 := Aside0.mk (blk_below C4.out hb); clear hb; have u0 := (blk_cell C4.out 0).trans rfl; have u1 := (blk_cell C4.out 1).trans rfl; have u2 := (blk_cell C4.out 2).trans rfl; have f0 := blk_frozen C4.out 0; have f1 := blk_frozen C4.out 1; have f2 := blk_frozen C4.out 2)
  go_end0
  exact ⟨rfl, v, by rw [HOne.out, List.append_nil]; exact ((D3.out.set _ (by omega) (by omega) 0 _).set _ (by omega) (by omega) 1 _).set _ (by omega) (by omega) 2 _, blk_far (blk_far (blk_far C3.out (by simp) _) (by simp) _) (by simp) _, blk_put (blk_put (blk_put C4.out 0 _ rfl) 1 _ rfl) 2 _ rfl⟩
 | false =>
  have HOne : Aside0 (pcOne a b c k i j n x y = [⟨(a.take n).drop k, (b.take x).drop i, (c.take y).drop j, false⟩]) := ⟨if_neg (by rw [HM0.out, HM1.out, HM2.out]; exact of_decide_eq_false HZ.out)⟩
  go_upto_region 3 with (go_at_call 14; (with_reducible refine (pc_empty Aa Ab Ac (c0 - k) (c1 - i) (c2 - j) m0 m1 m2 false false _ (by have := HM0.out; have := HK.out; have := HA.out; omega) (by have := HM1.out; have := HK.out; have := HA.out; omega) (by have := HM2.out; have := HK.out; have := HA.out; omega) HZ.out).mono ?_); rintro e W2 ⟨rfl, hb⟩; have D2 := Aside0.mk (D1.out.below hb); have C3 := Aside0.mk (blk_below C3.out hb); have C4 := Aside0.mk (blk_below C4.out hb); have CT := Aside0.mk (blk_below CT.out hb); have PB := Aside0.mk (blk_below PB.out hb); have G0 := Aside0.mk (Kd.F_below G0.out hb); have G1 := Aside0.mk (Kd.F_below G1.out hb); have G2 := Aside0.mk (Kd.F_below G2.out hb); clear hb)
  clear p0 p1 p2 p3
  have p0 := (blk_cell PB.out 0).trans rfl
  have p1 := (blk_cell PB.out 1).trans rfl
  have p2 := (blk_cell PB.out 2).trans rfl
  have p3 := (blk_cell PB.out 3).trans rfl
  have x3 := (blk_cell C3.out 0).trans rfl
  have HFK : Aside0 (Kd.FK k30 W2 P ⟨(a.take n).drop k, (b.take x).drop i, (c.take y).drop j, false⟩ [.slice Aa m0 (c0 - k), .slice Ab m1 (c1 - i), .slice Ac m2 (c2 - j), .bool false]) := ⟨by
   have h_ := k30_mkF W2 P ⟨(a.take n).drop k, (b.take x).drop i, (c.take y).drop j, false⟩ (c0 := c0 - k) (by show ((a.take n).drop k).length ≤ c0 - k; have := HL0.out; have := HM0.out; have := HK.out; have := HCC.out; omega) G0.out (c1 := c1 - i) (by show ((b.take x).drop i).length ≤ c1 - i; have := HL1.out; have := HM1.out; have := HK.out; have := HCC.out; omega) G1.out (c2 := c2 - j) (by show ((c.take y).drop j).length ≤ c2 - j; have := HL2.out; have := HM2.out; have := HK.out; have := HCC.out; omega) G2.out
   have e0 := HL0.out
   have e1 := HL1.out
   have e2 := HL2.out
   simp only [e0, e1, e2] at h_
   exact h_⟩
  obtain ⟨Av, cv, rfl⟩ := Kd.N_slice D2.out.row
  go_upto_region 4 with ((with_reducible refine gate_builtin (b := .append) (xs := #[.tmp 30, .tmp 32]) rfl ?_); (try (refine gate_guard (by rfl) ?_; dsimp only)); at_builtin; refine Kd.N_append k30 (w0 := W2) (w.heap.size + 5) rfl (.tmp 30) (.tmp 32) 25 30 (.agg #[.slice none 0 0, .slice none 0 0, .slice none 0 0, .bool false]) 80 rfl Tryd.underlying25 pc_info rfl (by decide) (by decide) (.slice Av out.length cv) out ⟨(a.take n).drop k, (b.take x).drop i, (c.take y).drop j, false⟩ [.slice Aa m0 (c0 - k), .slice Ab m1 (c1 - i), .slice Ac m2 (c2 - j), .bool false] (fun k => P k ∨ (w.heap.size + 5 ≤ k ∧ ¬ Q k)) P rfl rfl HFK.out (fun k hk => ⟨.inl hk, fun e => by have h1 := Kd.N_base D2.out.row k e.symm; have h2 := D2.out.pl_ k hk; omega⟩) (fun k hk => .inr ⟨Nat.le_trans D2.out.lt hk, fun hq => by have := D2.out.qg k hq; omega⟩) D2.out.row (Below.refl _ _) D2.out.lt (by have := HO.out; omega) ?_; intro v33 w3 hN hb3 hg3 hat3; obtain ⟨A33, c33, rfl⟩ := Kd.N_slice hN; have D3 := Aside0.mk (D2.out.grow hN hb3 hg3); have C3 := Aside0.mk ((hb3.block _ (by omega)).trans C3.out); have C4 := Aside0.mk ((hb3.block _ (by omega)).trans C4.out); have CT := Aside0.mk ((hg3.block gt (blk_lt CT.out) (Kd.N_ne D2.out.row CT.out (by decide))).trans CT.out); clear x3; have x3 := (blk_cell C3.out 0).trans rfl; have g3 := blk_frozen C3.out 0; clear hN hb3 hg3 hat3)
  have D4 := Aside0.mk (D3.out.set (w.heap.size + 3) (by omega) (by omega) 0 (.slice A33 (out ++ [(⟨(a.take n).drop k, (b.take x).drop i, (c.take y).drop j, false⟩ : S30)]).length c33))
  have E3 := Aside0.mk (blk_put C3.out 0 (.slice A33 (out ++ [(⟨(a.take n).drop k, (b.take x).drop i, (c.take y).drop j, false⟩ : S30)]).length c33) rfl)
  have E4 := Aside0.mk (blk_far (p := ⟨w.heap.size + 3, 0, none⟩) C4.out (by simp) (.slice A33 (out ++ [(⟨(a.take n).drop k, (b.take x).drop i, (c.take y).drop j, false⟩ : S30)]).length c33))
  have ET := Aside0.mk (blk_far (p := ⟨w.heap.size + 3, 0, none⟩) CT.out (by have := Hgt.out; simp; omega) (.slice A33 (out ++ [(⟨(a.take n).drop k, (b.take x).drop i, (c.take y).drop j, false⟩ : S30)]).length c33))
  clear x3 g3 p0 p1 p2 p3
  simp only [List.length_append, List.length_cons, List.length_nil, Nat.zero_add] at D4 E3 E4 ET
  obtain ⟨W4, hW4⟩ : ∃ Z : World, w3.setCell ⟨w.heap.size + 3, 0, none⟩ (.slice A33 (out.length + 1) c33) = Z := ⟨_, rfl⟩
  rw [hW4] at D4 E3 E4 ET ⊢
  clear hW4
  have t0 := (blk_cell ET.out 0).trans rfl
  have t1 := (blk_cell ET.out 1).trans rfl
  have t2 := (blk_cell ET.out 2).trans rfl
  go_wp2_with (go_at_call 15; (with_reducible refine (pc_next n x y _ (by have := HK.out; have := HA.out; omega) (by have := HK.out; have := HA.out; omega) (by have := HK.out; have := HA.out; omega)).mono ?_); rintro e W5 ⟨rfl, hb⟩; have D5 := Aside0.mk (D4.out.below hb); have E3 := Aside0.mk (blk_below E3.out hb); have E4 := Aside0.mk (blk_below E4.out hb); clear hb; have u0 := (blk_cell E4.out 0).trans rfl; have u1 := (blk_cell E4.out 1).trans rfl; have u2 := (blk_cell E4.out 2).trans rfl; have f0 := blk_frozen E4.out 0; have f1 := blk_frozen E4.out 1; have f2 := blk_frozen E4.out 2)
  go_end0
  exact ⟨rfl, _, by rw [HOne.out]; exact ((D5.out.set _ (by omega) (by omega) 0 _).set _ (by omega) (by omega) 1 _).set _ (by omega) (by omega) 2 _, blk_far (blk_far (blk_far E3.out (by simp) _) (by simp) _) (by simp) _, blk_put (blk_put (blk_put E4.out 0 _ rfl) 1 _ rfl) 2 _ rfl⟩
set_option maxHeartbeats 16000000 in
set_option maxRecDepth 100000 in
theorem merge_Pieces.many (A0 A1 A2 : Option Addr) (c0 c1 c2 : Nat) (a b c : List ByteArray) (w : World) (h : ¬ (a.length ≤ 200 ∧ b.length ≤ 200 ∧ c.length ≤ 200)) :
  Calls Tryd.prog 8 #[.slice A0 a.length c0, .slice A1 b.length c1, .slice A2 c.length c2] w fun e w' => e = .returned (.slice none 0 0) ∧ Below w.heap.size w w' := by
 have hmf : ∀ (fn : Fn) (first cap : Array Value) (w : World), (Instr.makeFunc fn first cap).run Tryd.prog w = .ok (.func fn first cap) w := fun _ _ _ _ => rfl
 obtain ⟨M, hM⟩ : ∃ M : Int, (if (if a.length < b.length then (b.length : Int) else (a.length : Int)) < (c.length : Int) then (c.length : Int) else if a.length < b.length then (b.length : Int) else (a.length : Int)) = M := ⟨_, rfl⟩
 have hmx : decide ((200 : Int) < M) = true := decide_eq_true (by rw [← hM]; split <;> split <;> omega)
 clear h
 go_enter Tryd.func8, Tryd.ntmps8
 go_wp2
 go_ret
 exact ⟨rfl, below_alloc (below_alloc (below_alloc (Below.refl _ _) _) _) _⟩
theorem pc_drop (l : List S38) (i : Nat) (h : i < l.length) : l.drop i = rd_T38 l (i : Int) :: l.drop (i + 1) := by
 rw [List.drop_eq_getElem_cons h]
 simp [rd_T38, List.getD_eq_getElem?_getD, List.getElem?_eq_getElem h]
set_option maxHeartbeats 16000000 in
set_option maxRecDepth 100000 in
theorem merge_Pieces.own (k0 : Nat) (P : Nat → Prop) (A0 A1 A2 : Option Addr) (c0 c1 c2 : Nat) (a b c : List ByteArray) (w : World) (h0 : Kd.F Kd.string w P A0 a.length a) (h1 : Kd.F Kd.string w P A1 b.length b) (h2 : Kd.F Kd.string w P A2 c.length c) (hP : ∀ k, P k → k < w.heap.size)
  (hc0 : a.length ≤ c0) (hc1 : b.length ≤ c1) (hc2 : c.length ≤ c2) (ha : a.length ≤ 200) (hb : b.length ≤ 200) (hc : c.length ≤ 200) (pl : List S38) (hs : merge_sure.f k0 a b c = some pl) (hpl : pl.length ≤ 400) (r : List S30) (hr : pcGo a b c pl 0 0 0 = some r) :
  Calls Tryd.prog 8 #[.slice A0 a.length c0, .slice A1 b.length c1, .slice A2 c.length c2] w fun e w' => ∃ v0_ : Value, e = .returned v0_ ∧ Kd.N k30 30 w' w.heap.size (fun k => P k ∨ w.heap.size ≤ k) v0_ r ∧ Below w.heap.size w w' := by
 have huP := Tryd.underlying30
 have huQ := Tryd.underlying38
 have hmf : ∀ (fn : Fn) (first cap : Array Value) (w : World), (Instr.makeFunc fn first cap).run Tryd.prog w = .ok (.func fn first cap) w := fun _ _ _ _ => rfl
 obtain ⟨M, hM⟩ : ∃ M : Int, (if (if a.length < b.length then (b.length : Int) else (a.length : Int)) < (c.length : Int) then (c.length : Int) else if a.length < b.length then (b.length : Int) else (a.length : Int)) = M := ⟨_, rfl⟩
 have hmx : decide ((200 : Int) < M) = false := decide_eq_false (by rw [← hM]; split <;> split <;> omega)
 have HF0 := Aside0.mk h0
 have HF1 := Aside0.mk h1
 have HF2 := Aside0.mk h2
 have HP := Aside0.mk hP
 have HCC := Aside0.mk (And.intro hc0 (And.intro hc1 hc2))
 have HA := Aside0.mk (And.intro ha (And.intro hb hc))
 have HS := Aside0.mk hs
 have HPL := Aside0.mk hpl
 have HR := Aside0.mk hr
 clear h0 h1 h2 hP hc0 hc1 hc2 ha hb hc hs hpl hr
 go_enter Tryd.func8, Tryd.ntmps8
 go_upto_region 6 with fail
 have hW0 : ∀ W0, (((((w.alloc (.cells #[.slice A0 a.length c0] 22)).alloc (.cells #[.slice A1 b.length c1] 22)).alloc (.cells #[.slice A2 c.length c2] 22)).alloc (.cells #[.slice none 0 0] 25)).alloc (.cells #[.int .i64 0, .int .i64 0, .int .i64 0] 38)) = W0 →
   W0.heap.size = w.heap.size + 5 ∧ Below w.heap.size w W0 ∧ W0.heap[w.heap.size]? = some (.cells #[.slice A0 a.length c0] 22 (0, 0)) ∧ W0.heap[w.heap.size + 1]? = some (.cells #[.slice A1 b.length c1] 22 (0, 0)) ∧ W0.heap[w.heap.size + 2]? = some (.cells #[.slice A2 c.length c2] 22 (0, 0)) ∧ W0.heap[w.heap.size + 3]? = some (.cells #[.slice none 0 0] 25 (0, 0)) ∧ W0.heap[w.heap.size + 4]? = some (.cells #[.int .i64 0, .int .i64 0, .int .i64 0] 38 (0, 0)) := by
  rintro W0 rfl
  have n0 := heap_alloc_new w (.cells #[.slice A0 a.length c0] 22)
  have n1 := heap_alloc_new (w.alloc (.cells #[.slice A0 a.length c0] 22)) (.cells #[.slice A1 b.length c1] 22)
  have n2 := heap_alloc_new ((w.alloc (.cells #[.slice A0 a.length c0] 22)).alloc (.cells #[.slice A1 b.length c1] 22)) (.cells #[.slice A2 c.length c2] 22)
  have n3 := heap_alloc_new (((w.alloc (.cells #[.slice A0 a.length c0] 22)).alloc (.cells #[.slice A1 b.length c1] 22)).alloc (.cells #[.slice A2 c.length c2] 22)) (.cells #[.slice none 0 0] 25)
  have n4 := heap_alloc_new ((((w.alloc (.cells #[.slice A0 a.length c0] 22)).alloc (.cells #[.slice A1 b.length c1] 22)).alloc (.cells #[.slice A2 c.length c2] 22)).alloc (.cells #[.slice none 0 0] 25)) (.cells #[.int .i64 0, .int .i64 0, .int .i64 0] 38)
  simp only [World.size_alloc] at n1 n2 n3 n4
  refine ⟨by simp, below_alloc (below_alloc (below_alloc (below_alloc (below_alloc (Below.refl _ _) _) _) _) _) _, blk_alloc (blk_alloc (blk_alloc (blk_alloc n0 _) _) _) _, blk_alloc (blk_alloc (blk_alloc n1 _) _) _, blk_alloc (blk_alloc n2 _) _, blk_alloc n3 _, n4⟩
 try simp only [World.size_alloc]
 generalize (((((w.alloc (.cells #[.slice A0 a.length c0] 22)).alloc (.cells #[.slice A1 b.length c1] 22)).alloc (.cells #[.slice A2 c.length c2] 22)).alloc (.cells #[.slice none 0 0] 25)).alloc (.cells #[.int .i64 0, .int .i64 0, .int .i64 0] 38)) = W0 at hW0 ⊢
 obtain ⟨hsz, hbl, m0, m1, m2, m3, m4⟩ := hW0 W0 rfl
 have HSZ := Aside0.mk hsz
 have HBL := Aside0.mk hbl
 have M0 := Aside0.mk m0
 have M1 := Aside0.mk m1
 have M2 := Aside0.mk m2
 have M3 := Aside0.mk m3
 have M4 := Aside0.mk m4
 clear hW0 hsz hbl m3 m4 hmx hM
 have x0 := (blk_cell m0 0).trans rfl
 have x1 := (blk_cell m1 0).trans rfl
 have x2 := (blk_cell m2 0).trans rfl
 clear m0 m1 m2
 go_wp2_with (go_at_call 16; (with_reducible refine (merge_sure.calls k0 A0 c0 a A1 c1 b A2 c2 c pl _ (Kd.C_below (Kd.F_now HF0.out) HBL.out) HCC.out.1 (Kd.C_below (Kd.F_now HF1.out) HBL.out) HCC.out.2.1 (Kd.C_below (Kd.F_now HF2.out) HBL.out) HCC.out.2.2 HS.out).mono ?_); rintro e W6 ⟨v25, rfl, hR, hb_⟩; obtain ⟨Aq, cq, rfl⟩ := Kd.R_slice hR; have HRq := Aside0.mk hR; have HB6 := Aside0.mk hb_; clear hR hb_)
 clear x0 x1 x2
 obtain ⟨Q, hQ⟩ : ∃ Q : Nat → Prop, Q = fun k => some k = (Value.slice Aq pl.length cq).ownBlock := ⟨_, rfl⟩
 have HPS : Aside0 (PSt w P Q A0 A1 A2 Aq c0 c1 c2 a b c pl 0 none (.slice none 0 0) [] W6) := ⟨by
  subst hQ
  have hs6 := HB6.out.size
  have hs5 := HSZ.out
  refine ⟨by omega, HP.out, fun k hk => ⟨by have := Kd.R_base HRq.out k hk.symm; omega, Kd.R_lt HRq.out k hk.symm⟩, blk_below M0.out HB6.out, blk_below M1.out HB6.out, blk_below M2.out HB6.out, Kd.N_nil _ _ _ _ _, Kd.R_F (Kd.R_tight rfl HRq.out), Kd.F_below HF0.out (below_step HBL.out HB6.out), Kd.F_below HF1.out (below_step HBL.out HB6.out), Kd.F_below HF2.out (below_step HBL.out HB6.out), (fun _ hc => by cases hc), below_step HBL.out HB6.out⟩⟩
 have N3 := Aside0.mk (blk_below M3.out HB6.out)
 have N4 := Aside0.mk (blk_below M4.out HB6.out)
 clear hQ HRq HB6 M0 M1 M2 M3 M4 HF0 HF1 HF2 HBL HSZ
 go_loopw [27] (fun u W => ∃ (i k1 i1 j1 : Nat) (v : Value) (out : List S30), u = .int .i64 i ∧ i ≤ pl.length ∧ Aside0 (PSt w P Q A0 A1 A2 Aq c0 c1 c2 a b c pl 0 none v out W ∧ W.heap[w.heap.size + 3]? = some (.cells #[v] 25 (0, 0)) ∧ W.heap[w.heap.size + 4]? = some (.cells #[.int .i64 (k1 : Int), .int .i64 (i1 : Int), .int .i64 (j1 : Int)] 38 (0, 0)) ∧ out.length ≤ 2 * i ∧ ∃ rest, pcGo a b c (pl.drop i) k1 i1 j1 = some rest ∧ out ++ rest = r)) (fun u _ => pl.length - (intOf u).toNat)
 case atStart => exact ⟨0, 0, 0, 0, _, [], rfl, Nat.zero_le _, ⟨HPS.out, N3.out, N4.out, Nat.le_refl _, r, by simpa using HR.out, rfl⟩⟩
 case round =>
  clear HPS N3 N4 HR HS
  obtain ⟨i, k1, i1, j1, v, out, rfl, hi, HJ⟩ := hrel
  have HD := Aside0.mk HJ.out.1
  have N3 := Aside0.mk HJ.out.2.1
  have N4 := Aside0.mk HJ.out.2.2.1
  have HOl := Aside0.mk HJ.out.2.2.2.1
  obtain ⟨rest, hrest, hout⟩ := HJ.out.2.2.2.2
  clear HJ
  by_cases qi : i < pl.length
  ·rw [pc_drop pl i qi] at hrest
   obtain ⟨⟨f0, f1, f2⟩, hx⟩ : ∃ x, rd_T38 pl (i : Int) = x := ⟨_, rfl⟩
   rw [hx] at hrest
   rw [pcGo] at hrest
   split at hrest
   rotate_left
   ·cases hrest
   rename_i hg
   obtain ⟨⟨g1, g2⟩, ⟨g3, g4⟩, ⟨g5, g6⟩⟩ := hg
   dsimp only at g1 g2 g3 g4 g5 g6 hrest
   obtain ⟨n, rfl⟩ : ∃ n : Nat, f0 = (n : Int) := ⟨f0.toNat, by omega⟩
   obtain ⟨x, rfl⟩ : ∃ n : Nat, f1 = (n : Int) := ⟨f1.toNat, by omega⟩
   obtain ⟨y, rfl⟩ : ∃ n : Nat, f2 = (n : Int) := ⟨f2.toNat, by omega⟩
   simp only [Int.toNat_natCast] at hrest
   obtain ⟨rest', hrest', he⟩ := Option.map_eq_some_iff.mp hrest
   have HRe := Aside0.mk hrest'
   have HE : Aside0 ((out ++ pcOne a b c k1 i1 j1 n x y ++ [(⟨(a.take (n + 1)).drop n, (a.take (n + 1)).drop n, (a.take (n + 1)).drop n, true⟩ : S30)]) ++ rest' = r) := ⟨by rw [← hout, ← he]; simp⟩
   have p0 : (0 : Int) ≤ (i : Int) := Int.natCast_nonneg _
   have q0 : (i : Int) < (pl.length : Int) := by omega
   obtain ⟨ad, e0, hy0, hy1, hy2⟩ := at_T38 (Kd.F_now HD.out.pls) (i : Int) p0 q0
   rw [hx] at hy0 hy1 hy2
   simp only [Int.toNat_natCast] at hy0 hy1 hy2
   have HG := Aside0.mk (And.intro (show k1 ≤ n by omega) (And.intro (show n < a.length by omega) (And.intro (show i1 ≤ x by omega) (And.intro (show x < b.length by omega) (And.intro (show j1 ≤ y by omega) (show y < c.length by omega))))))
   clear hrest hrest' he hout hx g1 g2 g3 g4 g5 g6
   cases e0
   go_upto_region 9 with fail
   have KT := Aside0.mk (heap_alloc_new wr (.cells #[.int .i64 (n : Int), .int .i64 (x : Int), .int .i64 (y : Int)] 38))
   have HD1 := Aside0.mk ((HD.out.below (below_alloc (Below.refl wr.heap.size wr) (.cells #[.int .i64 (n : Int), .int .i64 (x : Int), .int .i64 (y : Int)] 38))).hold KT.out HD.out.lt)
   have N31 := Aside0.mk (blk_alloc N3.out (.cells #[.int .i64 (n : Int), .int .i64 (x : Int), .int .i64 (y : Int)] 38))
   have N41 := Aside0.mk (blk_alloc N4.out (.cells #[.int .i64 (n : Int), .int .i64 (x : Int), .int .i64 (y : Int)] 38))
   obtain ⟨Wc, hWc⟩ : ∃ Z : World, wr.alloc (.cells #[.int .i64 (n : Int), .int .i64 (x : Int), .int .i64 (y : Int)] 38) = Z := ⟨_, rfl⟩
   rw [hWc] at KT HD1 N31 N41 ⊢
   obtain ⟨gt, hgt⟩ : ∃ g, wr.heap.size = g := ⟨_, rfl⟩
   rw [hgt] at KT HD1 ⊢
   clear hWc hgt HD N3 N4 hy0 hy1 hy2
   have t0 := (blk_cell KT.out 0).trans rfl
   have t1 := (blk_cell KT.out 1).trans rfl
   have t2 := (blk_cell KT.out 2).trans rfl
   go_upto_region 10 with (go_at_call 13; (with_reducible refine (pc_ahead w _ P Q A0 A1 A2 _ c0 c1 c2 k1 i1 j1 n x y _ _ _ _ a b c pl gt (some #[.int .i64 (n : Int), .int .i64 (x : Int), .int .i64 (y : Int)]) _ _ _ v out rfl rfl rfl (by omega) (by omega) (by omega) (by omega) HD1.out N31.out N41.out HG.out.1 HG.out.2.2.1 HG.out.2.2.2.2.1 (Nat.le_of_lt HG.out.2.1) (Nat.le_of_lt HG.out.2.2.2.1) (Nat.le_of_lt HG.out.2.2.2.2.2) HA.out.1 HA.out.2.1 HA.out.2.2 HCC.out.1 HCC.out.2.1 HCC.out.2.2 (by have := HOl.out; have := HPL.out; omega)).mono ?_); rintro e W2 ⟨rfl, v2, hD, h3, h4⟩; have HD2 := Aside0.mk hD; have N32 := Aside0.mk h3; have N42 := Aside0.mk h4; clear hD h3 h4)
   clear t0 t1 t2 KT HD1 N31 N41
   have KT2 := Aside0.mk (HD2.out.pr _ rfl).2
   have x0 := (blk_cell HD2.out.b0 0).trans rfl
   have t0 := (blk_cell KT2.out 0).trans rfl
   obtain ⟨Ax, hcut, hF, hL⟩ := pc_cut P A0 c0 n (n + 1) a W2 HD2.out.s0 (by omega) (by have := HG.out; omega) HCC.out.1
   obtain ⟨m, hm⟩ : ∃ m, n + 1 - n = m := ⟨_, rfl⟩
   rw [hm] at hcut hL
   have e1 : wrap64 ((n : Int) + 1) = (n : Int) + 1 := by unfold wrap64; have := HG.out; have := HA.out; omega
   have hcutA : ∀ W', (Instr.slice 22 (.slice A0 a.length c0) (some (.int .i64 (n : Int))) (some (.int .i64 ((n : Int) + 1))) none).run Tryd.prog W' = .ok (.slice Ax m (c0 - n)) W' := hcut
   have hcutB : ∀ W', (Instr.slice 22 (.slice A0 a.length c0) (some (.int .i64 (n : Int))) (some (.int .i64 (wrap64 ((n : Int) + 1)))) none).run Tryd.prog W' = .ok (.slice Ax m (c0 - n)) W' := by rw [e1]; exact hcut
   have HFx := Aside0.mk hF
   have HLx := Aside0.mk hL
   have HMx := Aside0.mk hm
   clear hcut hF hL hm
   go_upto_region 11 with fail
   clear x0 t0 hcutA hcutB
   have HFK : Aside0 (Kd.FK k30 W2 P ⟨(a.take (n + 1)).drop n, (a.take (n + 1)).drop n, (a.take (n + 1)).drop n, true⟩ [.slice Ax m (c0 - n), .slice Ax m (c0 - n), .slice Ax m (c0 - n), .bool true]) := ⟨by
    have h_ := k30_mkF W2 P ⟨(a.take (n + 1)).drop n, (a.take (n + 1)).drop n, (a.take (n + 1)).drop n, true⟩ (c0 := c0 - n) (by show ((a.take (n + 1)).drop n).length ≤ c0 - n; have := HLx.out; have := HMx.out; have := HG.out; have := HCC.out; omega) HFx.out (c1 := c0 - n) (by show ((a.take (n + 1)).drop n).length ≤ c0 - n; have := HLx.out; have := HMx.out; have := HG.out; have := HCC.out; omega) HFx.out (c2 := c0 - n) (by show ((a.take (n + 1)).drop n).length ≤ c0 - n; have := HLx.out; have := HMx.out; have := HG.out; have := HCC.out; omega) HFx.out
    have e0 := HLx.out
    simp only [e0] at h_
    exact h_⟩
   obtain ⟨out2, hout2⟩ : ∃ l, out ++ pcOne a b c k1 i1 j1 n x y = l := ⟨_, rfl⟩
   have HO2 : Aside0 (out2.length ≤ 2 * i + 1) := ⟨by rw [← hout2, List.length_append]; have := HOl.out; have := pcOne_len a b c k1 i1 j1 n x y; omega⟩
   rw [hout2] at HD2 HE
   clear hout2
   obtain ⟨Av, cv, rfl⟩ := Kd.N_slice HD2.out.row
   have x3 := (blk_cell N32.out 0).trans rfl
   go_wp2_with ((with_reducible refine gate_builtin (b := .append) (xs := #[.tmp 41, .tmp 46]) rfl ?_); (try (refine gate_guard (by rfl) ?_; dsimp only)); at_builtin; refine Kd.N_append k30 (w0 := W2) (w.heap.size + 5) rfl (.tmp 41) (.tmp 46) 25 30 (.agg #[.slice none 0 0, .slice none 0 0, .slice none 0 0, .bool false]) 80 rfl Tryd.underlying25 pc_info rfl (by decide) (by decide) (.slice Av out2.length cv) out2 ⟨(a.take (n + 1)).drop n, (a.take (n + 1)).drop n, (a.take (n + 1)).drop n, true⟩ [.slice Ax m (c0 - n), .slice Ax m (c0 - n), .slice Ax m (c0 - n), .bool true] (fun k => P k ∨ (w.heap.size + 5 ≤ k ∧ ¬ Q k)) P rfl rfl HFK.out (fun k hk => ⟨.inl hk, fun e => by have h1 := Kd.N_base HD2.out.row k e.symm; have h2 := HD2.out.pl_ k hk; omega⟩) (fun k hk => .inr ⟨Nat.le_trans HD2.out.lt hk, fun hq => by have := HD2.out.qg k hq; omega⟩) HD2.out.row (Below.refl _ _) HD2.out.lt (by have := HO2.out; have := HPL.out; omega) ?_; intro v47 w3 hN hb3 hg3 hat3; obtain ⟨A47, c47, rfl⟩ := Kd.N_slice hN; have HD3 := Aside0.mk (HD2.out.grow hN hb3 hg3); have N33 := Aside0.mk ((hb3.block _ (by omega)).trans N32.out); have N43 := Aside0.mk ((hb3.block _ (by omega)).trans N42.out); clear x3; have x3 := (blk_cell N33.out 0).trans rfl; have g3 := blk_frozen N33.out 0; clear hN hb3 hg3 hat3)
   have hpl4 : pl.length ≤ 400 := HPL.out
   go_roundw
   case rel => exact ⟨i + 1, n + 1, x + 1, y + 1, _, _, by rw [show wrap64 ((i : Int) + 1) = ((i + 1 : Nat) : Int) by unfold wrap64; omega], by omega, ⟨(HD3.out.set _ (by omega) (by omega) 0 _).drop, blk_put N33.out 0 _ (by first | rfl | (rw [List.length_append]; rfl)), blk_far N43.out (by simp) _, by rw [List.length_append]; have := HO2.out; simp; omega, rest', HRe.out, HE.out⟩⟩
   case measure => rw [show wrap64 ((i : Int) + 1) = ((i + 1 : Nat) : Int) by unfold wrap64; omega]; simp [intOf]; omega
  ·obtain rfl : i = pl.length := by omega
   rw [List.drop_length, pcGo] at hrest
   split at hrest
   rotate_left
   ·cases hrest
   rename_i hg
   obtain rfl := Option.some.inj hrest
   have HE := Aside0.mk hout
   have HG := Aside0.mk hg
   clear hrest hout hg
   have x0 := (blk_cell HD.out.b0 0).trans rfl
   have x1 := (blk_cell HD.out.b1 0).trans rfl
   have x2 := (blk_cell HD.out.b2 0).trans rfl
   go_upto_region 14 with (go_at_call 13; (with_reducible refine (pc_ahead w _ P Q A0 A1 A2 _ c0 c1 c2 k1 i1 j1 a.length b.length c.length _ _ _ _ a b c pl 0 none _ _ _ v out rfl rfl rfl (by omega) (by omega) (by omega) (by omega) HD.out N3.out N4.out HG.out.1 HG.out.2.1 HG.out.2.2 (Nat.le_refl _) (Nat.le_refl _) (Nat.le_refl _) HA.out.1 HA.out.2.1 HA.out.2.2 HCC.out.1 HCC.out.2.1 HCC.out.2.2 (by have := HOl.out; have := HPL.out; omega)).mono ?_); rintro e W2 ⟨rfl, v2, hD, h3, h4⟩; have HD2 := Aside0.mk hD; have N32 := Aside0.mk h3; clear hD h3 h4)
   obtain ⟨Av, cv, rfl⟩ := Kd.N_slice HD2.out.row
   have hz1 := (blk_cell N32.out 0).trans rfl
   go_wp2_with fail
   go_ret
   refine ⟨_, rfl, ?_, HD2.out.low⟩
   have hh := Kd.N_lower (base' := w.heap.size) HD2.out.row (by omega)
   rw [List.length_append] at hh
   rw [HE.out] at hh
   refine Kd.N_mono hh (fun k hk => ?_)
   rcases hk with hk | hk
   ·exact .inl hk
   ·exact .inr (by omega)
theorem merge_Pieces.calls (k : Nat) (P0_ : Nat → Prop) (A0 : Option Addr) (c0 : Nat) (l0 : List ByteArray) (P1_ : Nat → Prop) (A1 : Option Addr) (c1 : Nat) (l1 : List ByteArray) (P2_ : Nat → Prop) (A2 : Option Addr) (c2 : Nat) (l2 : List ByteArray) (r : List (S30)) (w : World) (hs0 : Kd.V Kd.string 9 w w.heap.size (fun k_ => P0_ k_) (.slice A0 l0.length c0) l0) (hs1 : Kd.V Kd.string 9 w w.heap.size (fun k_ => P1_ k_) (.slice A1 l1.length c1) l1) (hs2 : Kd.V Kd.string 9 w w.heap.size (fun k_ => P2_ k_) (.slice A2 l2.length c2) l2) (h : merge_Pieces.f k l0 l1 l2 = some r) :
  Calls Tryd.prog 8 #[.slice A0 l0.length c0, .slice A1 l1.length c1, .slice A2 l2.length c2] w fun e w' => ∃ v0_ : Value, e = .returned (v0_) ∧ Kd.N k30 30 w' w.heap.size (fun k_ => ((P0_ k_ ∨ P1_ k_ ∨ P2_ k_) ∨ w.heap.size ≤ k_)) v0_ r ∧ Below w.heap.size w w' := by
 unfold merge_Pieces.f at h
 split at h
 rotate_left
 ·rename_i hm
  obtain rfl := Option.some.inj h
  refine (merge_Pieces.many A0 A1 A2 c0 c1 c2 l0 l1 l2 w hm).mono ?_
  rintro e w' ⟨rfl, hb⟩
  exact ⟨_, rfl, Kd.N_nil _ _ _ _ _, hb⟩
 rename_i hm
 obtain ⟨pl, hp, h⟩ := Option.bind_eq_some_iff.mp h
 split at h
 rotate_left
 ·cases h
 rename_i hpl
 refine (merge_Pieces.own k (fun k_ => (P0_ k_ ∨ P1_ k_ ∨ P2_ k_) ∧ k_ < w.heap.size) A0 A1 A2 c0 c1 c2 l0 l1 l2 w (Kd.F_mono (Kd.F_bound (Kd.V_F hs0)) (fun k hk => ⟨.inl hk.1, hk.2⟩)) (Kd.F_mono (Kd.F_bound (Kd.V_F hs1)) (fun k hk => ⟨.inr (.inl hk.1), hk.2⟩)) (Kd.F_mono (Kd.F_bound (Kd.V_F hs2)) (fun k hk => ⟨.inr (.inr hk.1), hk.2⟩)) (fun k hk => hk.2) (Kd.V_at hs0).2.1 (Kd.V_at hs1).2.1 (Kd.V_at hs2).2.1 hm.1 hm.2.1 hm.2.2 pl hp hpl r h).mono ?_
 rintro e w' ⟨v0_, rfl, hN, hb⟩
 exact ⟨v0_, rfl, Kd.N_mono hN (fun k hk => hk.elim (fun q => .inl q.1) .inr), hb⟩
end Go.Proofs.YtkbhnkagiaghnaaDoor.P
