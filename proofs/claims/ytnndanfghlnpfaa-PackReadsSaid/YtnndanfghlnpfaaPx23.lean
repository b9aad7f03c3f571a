import Derived.Test.YtnndanfghlnpfaaPx0
import Derived.Test.YtnndanfghlnpfaaPx18
import Derived.Test.YtnndanfghlnpfaaPx21
import Derived.Test.YtnndanfghlnpfaaPx22
namespace Go.Proofs.Ytnndanfghlnpfaa.P
open Go.RowKit Go.Proofs.YtnndanfghlnpfaaW.PrintWords Go.Proofs.YtnndanfghlnpfaaW.PrintLast Go.Proofs.YtnndanfghlnpfaaW.PrintMore
attribute [local go_sem] max2_int min2_int max_two min_two max_three min_three max_four min_four   -- for this text's walks alone
set_option linter.unusedVariables false
set_option linter.unusedSimpArgs false
/-! ### sr28Read: function 11 -/
mutual
def sr28Read.l0 : Nat → ByteArray → Int → Int → ByteArray → List (S49) → Bool → ByteArray → Int → Int → Option (ByteArray × (List (S49)) × (List (S38)) × (List (S38)) × Bool × (List (S88)) × Int)
 | 0, _, _, _, _, _, _, _, _, _ => none
 | k + 1, x0, x6, x7, x399000, x399001, x399004, x400000, x400001, x400002 => if x7 < x6 then (sr28Read.j1 k x0 x6 x7 (x400002 == 0) x399000 x399001 x399004 x400000 x400001 x400002) else (sr28Read.j1 k x0 x6 x7 false x399000 x399001 x399004 x400000 x400001 x400002)
def sr28Read.j1 : Nat → ByteArray → Int → Int → Bool → ByteArray → List (S49) → Bool → ByteArray → Int → Int → Option (ByteArray × (List (S49)) × (List (S38)) × (List (S38)) × Bool × (List (S88)) × Int)
 | 0, _, _, _, _, _, _, _, _, _, _ => none
 | k + 1, x0, x6, x7, x29, x399000, x399001, x399004, x400000, x400001, x400002 => if x29 = true then ((sr28read.f k x400000 x400001 x400002).bind fun bt409 => ((sr28num.f k bt409.1 bt409.2.1 bt409.2.2.1 4).bind fun bt413 => (if x399001.length < 5864062014805 then (sr28Read.l0 k x0 x6 (wrap64 (x7 + 1)) x399000 (x399001 ++ [(⟨bt409.2.2.2, bt413.2.2.2⟩ : S49)]) x399004 bt413.1 bt413.2.1 bt413.2.2.1) else (none)))) else ((sr28stack.f k x400000 x400001 x400002).bind fun bt420 => ((sr28stack.f k bt420.1 bt420.2.1 bt420.2.2.1).bind fun bt426 => (if bt426.2.2.1 = 0 then (sr28Read.j2 k x0 (bt426.2.1 == (x0.size : Int)) x399000 x399001 bt420.2.2.2 bt426.2.2.2 x399004 bt426.1 bt426.2.1 bt426.2.2.1) else (sr28Read.j2 k x0 false x399000 x399001 bt420.2.2.2 bt426.2.2.2 x399004 bt426.1 bt426.2.1 bt426.2.2.1))))
def sr28Read.j2 : Nat → ByteArray → Bool → ByteArray → List (S49) → List (S38) → List (S38) → Bool → ByteArray → Int → Int → Option (ByteArray × (List (S49)) × (List (S38)) × (List (S38)) × Bool × (List (S88)) × Int)
 | 0, _, _, _, _, _, _, _, _, _, _ => none
 | k + 1, x0, x71, x399000, x399001, x399002, x399003, x399004, x400000, x400001, x400002 => if x71 = true then (sr28Read.j3 k x0 x399000 x399001 x399002 x399003 x399004 x400000 x400001 18) else (sr28Read.j3 k x0 x399000 x399001 x399002 x399003 x399004 x400000 x400001 x400002)
def sr28Read.j3 : Nat → ByteArray → ByteArray → List (S49) → List (S38) → List (S38) → Bool → ByteArray → Int → Int → Option (ByteArray × (List (S49)) × (List (S38)) × (List (S38)) × Bool × (List (S88)) × Int)
 | 0, _, _, _, _, _, _, _, _, _ => none
 | k + 1, x0, x399000, x399001, x399002, x399003, x399004, x400000, x400001, x400002 => if x400002 = 0 then (if 0 ≤ x400001 then (if x400001 < (x0.size : Int) then (sr28Read.j4 k x0 (decide ((bt x0 x400001) > 1)) x399000 x399001 x399002 x399003 x399004 x400000 x400001 x400002) else (none)) else (none)) else (sr28Read.j4 k x0 false x399000 x399001 x399002 x399003 x399004 x400000 x400001 x400002)
def sr28Read.j4 : Nat → ByteArray → Bool → ByteArray → List (S49) → List (S38) → List (S38) → Bool → ByteArray → Int → Int → Option (ByteArray × (List (S49)) × (List (S38)) × (List (S38)) × Bool × (List (S88)) × Int)
 | 0, _, _, _, _, _, _, _, _, _, _ => none
 | k + 1, x0, x82, x399000, x399001, x399002, x399003, x399004, x400000, x400001, x400002 => if x82 = true then (sr28Read.j5 k x0 x399000 x399001 x399002 x399003 x399004 x400000 x400001 5) else (sr28Read.j5 k x0 x399000 x399001 x399002 x399003 x399004 x400000 x400001 x400002)
def sr28Read.j5 : Nat → ByteArray → ByteArray → List (S49) → List (S38) → List (S38) → Bool → ByteArray → Int → Int → Option (ByteArray × (List (S49)) × (List (S38)) × (List (S38)) × Bool × (List (S88)) × Int)
 | 0, _, _, _, _, _, _, _, _, _ => none
 | k + 1, x0, x399000, x399001, x399002, x399003, x399004, x400000, x400001, x400002 => if x400002 = 0 then (if 0 ≤ x400001 then (if x400001 < (x0.size : Int) then (sr28Read.j6 k x0 x399000 x399001 x399002 x399003 ((bt x0 x400001) == 1) x400000 (wrap64 (x400001 + 1)) x400002) else (none)) else (none)) else (sr28Read.j6 k x0 x399000 x399001 x399002 x399003 x399004 x400000 x400001 x400002)
def sr28Read.j6 : Nat → ByteArray → ByteArray → List (S49) → List (S38) → List (S38) → Bool → ByteArray → Int → Int → Option (ByteArray × (List (S49)) × (List (S38)) × (List (S38)) × Bool × (List (S88)) × Int)
 | 0, _, _, _, _, _, _, _, _, _ => none
 | k + 1, x0, x399000, x399001, x399002, x399003, x399004, x400000, x400001, x400002 => (sr28list.f k x400000 x400001 x400002).bind fun bt432 => (if bt432.2.2.1 = 0 then (if bt432.2.1 < (x0.size : Int) then (some ((⟨#[]⟩ : ByteArray), ([] : List (S49)), ([] : List (S38)), ([] : List (S38)), false, ([] : List (S88)), 6)) else ((sr25Right.f k x399000 x399001 x399002 x399003 x399004 bt432.2.2.2).bind fun t438 => (if t438 = true then (some (x399000, x399001, x399002, x399003, x399004, bt432.2.2.2, 0)) else (some ((⟨#[]⟩ : ByteArray), ([] : List (S49)), ([] : List (S38)), ([] : List (S38)), false, ([] : List (S88)), 5))))) else (some ((⟨#[]⟩ : ByteArray), ([] : List (S49)), ([] : List (S38)), ([] : List (S38)), false, ([] : List (S88)), bt432.2.2.1)))
end
def sr28Read.f (k : Nat) (a0 : ByteArray) : Option (ByteArray × (List (S49)) × (List (S38)) × (List (S38)) × Bool × (List (S88)) × Int) := (sr28read.f k a0 0 0).bind fun bt400 => ((sr28num.f k bt400.1 bt400.2.1 bt400.2.2.1 2).bind fun bt404 => (sr28Read.l0 k a0 bt404.2.2.2 0 bt400.2.2.2 ([] : List (S49)) false bt404.1 bt404.2.1 bt404.2.2.1))
theorem cell_again_stylusref28_Read (W : World) (g j : Nat) (v : Value) : (W.setCell ⟨g, j, none⟩ v).cell? ⟨g, j, none⟩ = Option.map (fun _ => v) (W.cell? ⟨g, j, none⟩) := by
 unfold World.setCell World.cell?
 simp only [Array.getElem?_modify, if_pos]
 cases W.heap[g]? with
 | none => rfl
 | some o =>
  cases o with
  | cells c e f =>
   by_cases h : j < c.size
   ·simp [h]
   ·simp [h]
  | _ => simp
set_option maxHeartbeats 8000000 in
set_option maxRecDepth 100000 in
theorem sr28Read.calls (k : Nat) (a0 : ByteArray) (r1 : ByteArray) (r2 : List (S49)) (r3 : List (S38)) (r4 : List (S38)) (r5 : Bool) (r6 : List (S88)) (r7 : Int) (w : World) (h : sr28Read.f k a0 = some (r1, r2, r3, r4, r5, r6, r7)) :
  Calls Try.prog 11 #[.string a0] w fun e w' => ∃ v1_ v2_ v3_ v5_ : Value, e = .returned (.tuple #[.agg #[.string r1, v1_, v2_, v3_, .bool r5, v5_], .int .i64 r7]) ∧ Kd.R k49 49 w' w.heap.size (fun _ => True) v1_ r2 ∧ Kd.S k38 38 w' w.heap.size (fun k_ => some k_ ≠ (v3_ : Value).ownBlock ∧ some k_ ≠ (v5_ : Value).ownBlock) v2_ r3 ∧ Kd.S k38 38 w' w.heap.size (fun k_ => some k_ ≠ (v2_ : Value).ownBlock ∧ some k_ ≠ (v5_ : Value).ownBlock) v3_ r4 ∧ Kd.R k88 88 w' w.heap.size (fun _ => True) v5_ r6 ∧ Below w.heap.size w w' := by
 have hdd_ := cell_again_stylusref28_Read
 have hmm_ : ∀ (u v : Value), Option.map (fun _ => v) (some u) = some v := fun _ _ => rfl
 have hu26 := Try.underlying26
 have hu64 := Try.underlying64
 have hu49 := Try.underlying49
 have HB := aS_ (Below.refl w.heap.size w)
 have H : ((sr28read.f k a0 0 0).bind fun bt400 => ((sr28num.f k bt400.1 bt400.2.1 bt400.2.2.1 2).bind fun bt404 => (sr28Read.l0 k a0 bt404.2.2.2 0 bt400.2.2.2 ([] : List (S49)) false bt404.1 bt404.2.1 bt404.2.2.1))) = some (r1, r2, r3, r4, r5, r6, r7) := h
 clear h
 replace H := Option.bind_eq_some_iff.mp H
 obtain ⟨⟨t400, t401, t402, t403⟩, A20, H⟩ := H
 try dsimp only at H
 have A2 := aS_ A20
 clear A20
 replace H := Option.bind_eq_some_iff.mp H
 obtain ⟨⟨t404, t405, t406, t407⟩, A30, H⟩ := H
 try dsimp only at H
 have A3 := aS_ A30
 clear A30
 have H' := aS_ H
 clear H
 go_enter Try.func11, Try.ntmps11
 go_wp2_with (first | ((with_reducible refine gate_dst (N := 2) rfl ?_); (try (refine gate_guard (by rfl) ?_; dsimp only)); refine bx_ 2 #[.string (⟨#[]⟩ : ByteArray), .slice none 0 0, .slice none 0 0, .slice none 0 0, .bool false, .slice none 0 0] 26 ?_; intro gb397 hg w4 hbox hb; have BK397 := aS_ (hbox); have GW397 := ge_ hg (wk HB.out); have GE397 := ge_ hg (wk HB.out); replace HB := bw_ HB hb; clear hb hbox hg) | ((with_reducible refine gate_dst (N := 4) rfl ?_); (try (refine gate_guard (by rfl) ?_; dsimp only)); refine bx_ 4 #[.string (⟨#[]⟩ : ByteArray), .slice none 0 0, .slice none 0 0, .slice none 0 0, .bool false, .slice none 0 0] 26 ?_; intro gb398 hg w5 hbox hb; have BK398 := aS_ (hbox); have GW398 := ge_ hg (wk HB.out); have GE398 := ge_ hg (wk HB.out); replace HB := bw_ HB hb; have NB397_398 := nq_ hg (bk BK397.out); replace BK397 := bb_ BK397 hb; have NB398_397 := nr_ NB397_398; clear hb hbox hg) | ((with_reducible refine gate_dst (N := 5) rfl ?_); (try (refine gate_guard (by rfl) ?_; dsimp only)); refine bx_ 5 #[.string (⟨#[]⟩ : ByteArray), .int .i64 0, .int .i64 0] 64 ?_; intro gb399 hg w6 hbox hb; have BK399 := aS_ (hbox); have GW399 := ge_ hg (wk HB.out); have GE399 := ge_ hg (wk HB.out); replace HB := bw_ HB hb; have NB397_399 := nq_ hg (bk BK397.out); replace BK397 := bb_ BK397 hb; have NB399_397 := nr_ NB397_399; have NB398_399 := nq_ hg (bk BK398.out); replace BK398 := bb_ BK398 hb; have NB399_398 := nr_ NB398_399; clear hb hbox hg; have hnb7 := NB399_397.out; have hnc7 := NB397_399.out; have hnb8 := NB399_398.out; have hnc8 := NB398_399.out; obtain ⟨hcz9_0, hcz9_1, hcz9_2, hfz9_0, hfz9_1, hfz9_2⟩ := c3_ BK399.out) | (refine cl_ (some 13) Try.func29 #[.agg #[.string a0, .int .i64 0, .int .i64 0]] ?_; (with_reducible refine (sr28read.calls k a0 0 0 t400 t401 t402 t403 _ A2.out).mono ?_); rintro e w10 ⟨rfl, hb⟩; refine ⟨_, rfl, ?_⟩; replace BK397 := aS_ (blk_below (bq BK397.out) hb); replace BK398 := aS_ (blk_below (bq BK398.out) hb); replace BK399 := aS_ (blk_below (g := gb399) (o := .cells #[.string a0, .int .i64 0, .int .i64 0] 64 (0, 0)) (bp BK399.out) hb); replace HB := bw_ HB hb; try clear hb; obtain ⟨hcz11_0, hcz11_1, hcz11_2, hfz11_0, hfz11_1, hfz11_2⟩ := c3_ BK399.out; have hnb12 := NB398_397.out; have hnc12 := NB397_398.out; obtain ⟨hcz13_0, hcz13_1, hcz13_2, hcz13_3, hcz13_4, hcz13_5, hfz13_0, hfz13_1, hfz13_2, hfz13_3, hfz13_4, hfz13_5⟩ := c6_ BK398.out) | (refine cl_ (some 19) Try.func30 #[.agg #[.string t400, .int .i64 t401, .int .i64 t402], .int .i64 2] ?_; (with_reducible refine (sr28num.calls k t400 t401 t402 2 t404 t405 t406 t407 _ A3.out).mono ?_); rintro e w14 ⟨rfl, hb⟩; refine ⟨_, rfl, ?_⟩; replace BK397 := aS_ (blk_below (bq BK397.out) hb); replace BK398 := aS_ (blk_below (g := gb398) (o := .cells #[.string t403, .slice none 0 0, .slice none 0 0, .slice none 0 0, .bool false, .slice none 0 0] 26 (0, 0)) (bp BK398.out) hb); replace BK399 := aS_ (blk_below (g := gb399) (o := .cells #[.string t400, .int .i64 t401, .int .i64 t402] 64 (0, 0)) (bp BK399.out) hb); replace HB := bw_ HB hb; try clear hb; obtain ⟨hcz15_0, hcz15_1, hcz15_2, hfz15_0, hfz15_1, hfz15_2⟩ := c3_ BK399.out))
 go_loopg [7] k (fun kq v7 w' => ∃ (x7_1 : Int) (x399001_1 : List (S49)) (x400000_1 : ByteArray) (x400001_1 : Int) (x400002_1 : Int) (u399001 : Value), v7 = .int .i64 x7_1 ∧ Aside0 (sr28Read.l0 kq a0 t407 x7_1 t403 x399001_1 false x400000_1 x400001_1 x400002_1 = some (r1, r2, r3, r4, r5, r6, r7)) ∧ Aside0 (kq ≤ k) ∧ Aside0 (Kd.R k49 49 w' w.heap.size (fun _ => True) u399001 x399001_1) ∧ Aside0 (w'.heap[gb397]? = some (.cells #[.string (⟨#[]⟩ : ByteArray), (.slice none 0 0), (.slice none 0 0), (.slice none 0 0), .bool false, (.slice none 0 0)] 26 (0, 0))) ∧ Aside0 (w'.heap[gb398]? = some (.cells #[.string t403, u399001, (.slice none 0 0), (.slice none 0 0), .bool false, (.slice none 0 0)] 26 (0, 0))) ∧ Aside0 (w'.heap[gb399]? = some (.cells #[.string x400000_1, .int .i64 x400001_1, .int .i64 x400002_1] 64 (0, 0))) ∧ Aside0 (Below w.heap.size w w'))
 case atStart => exact ⟨(0), (([] : List (S49))), (t404), (t405), (t406), (.slice none 0 0), t0, H', ⟨Nat.le_refl _⟩, ⟨by first | exact Kd.R_nil _ _ _ _ _ | exact Kd.N_nil _ _ _ _ _ | exact Kd.V_nil _ _ _ _ _ | exact Kd.Q_nil _ _ _ _ _ | exact Kd.S_nil _ _ _ _ _⟩, ⟨bq BK397.out⟩, ⟨bq BK398.out⟩, ⟨bp BK399.out⟩, ⟨wk HB.out⟩⟩
 case round =>
  clear H'
  try clear c1
  try clear c2
  try clear p2
  try clear c3
  try clear c7
  try clear c8
  try clear c11
  try clear c12
  try clear hcz11_0 hcz11_1 hcz11_2 hcz13_0 hcz13_1 hcz13_2 hcz13_3 hcz13_4 hcz13_5 hcz15_0 hcz15_1 hcz15_2 hcz9_0 hcz9_1 hcz9_2 hfz11_0 hfz11_1 hfz11_2 hfz13_0 hfz13_1 hfz13_2 hfz13_3 hfz13_4 hfz13_5 hfz15_0 hfz15_1 hfz15_2 hfz9_0 hfz9_1 hfz9_2
  obtain ⟨x7_1, x399001_1, x400000_1, x400001_1, x400002_1, u399001, rfl, HA, HK1, HO_399001, BK397, BK398, BK399, HB⟩ := hrel
  cases gk with
  | zero => exact absurd HA.out (by simp [sr28Read.l0])
  | succ k1 =>
   have H := HA.out
   clear HA
   simp only [sr28Read.l0] at H
   have HC16 := aS_ H
   clear H
   go_upto_region 6 with (fail)
   go_cut [29] (fun v29 wc => ∃ (kq : Nat) (x29_15 : Bool), v29 = .bool x29_15 ∧ Aside0 (sr28Read.j1 kq a0 t407 x7_1 x29_15 t403 x399001_1 false x400000_1 x400001_1 x400002_1 = some (r1, r2, r3, r4, r5, r6, r7)) ∧ Aside0 (kq ≤ k1) ∧ Aside0 (Kd.R k49 49 wc w.heap.size (fun _ => True) u399001 x399001_1) ∧ Aside0 (wc.heap[gb397]? = some (.cells #[.string (⟨#[]⟩ : ByteArray), (.slice none 0 0), (.slice none 0 0), (.slice none 0 0), .bool false, (.slice none 0 0)] 26 (0, 0))) ∧ Aside0 (wc.heap[gb398]? = some (.cells #[.string t403, u399001, (.slice none 0 0), (.slice none 0 0), .bool false, (.slice none 0 0)] 26 (0, 0))) ∧ Aside0 (wc.heap[gb399]? = some (.cells #[.string x400000_1, .int .i64 x400001_1, .int .i64 x400002_1] 64 (0, 0))) ∧ Aside0 (Below w.heap.size w wc))
   case first =>
    have H := HC16.out
    clear HC16
    by_cases c17 : x7_1 < t407
    ·rw [if_pos c17] at H
     have c17b0 := decide_eq_true c17
     clear c17
     (first | rw [c17b0] | (simp only [i64_w, i32_w]; rw [c17b0]) | skip)
     have H' := aS_ H
     clear H
     have hnb18 := NB399_397.out
     have hnc18 := NB397_399.out
     have hnb19 := NB399_398.out
     have hnc19 := NB398_399.out
     obtain ⟨hcz20_0, hcz20_1, hcz20_2, hfz20_0, hfz20_1, hfz20_2⟩ := c3_ BK399.out
     go_wp2
     go_meet
     case rel => exact ⟨_, ((x400002_1 == 0)), t0, H', ⟨t2 HK1⟩, ⟨rk HO_399001.out⟩, ⟨bq BK397.out⟩, ⟨bq BK398.out⟩, ⟨bq BK399.out⟩, ⟨wk HB.out⟩⟩
    ·rw [if_neg c17] at H
     have c17b0 := decide_eq_false c17
     clear c17
     (first | rw [c17b0] | (simp only [i64_w, i32_w]; rw [c17b0]) | skip)
     have H' := aS_ H
     clear H
     go_wp2
     go_meet
     case rel => exact ⟨_, (false), t0, H', ⟨t2 HK1⟩, ⟨rk HO_399001.out⟩, ⟨bq BK397.out⟩, ⟨bq BK398.out⟩, ⟨bq BK399.out⟩, ⟨wk HB.out⟩⟩
   case rest =>
    clear HC16
    try clear c1
    try clear c2
    try clear p2
    try clear c3
    try clear c7
    try clear c8
    try clear c11
    try clear c12
    try clear c17
    try clear c17b0
    try clear c18
    try clear c19
    try clear hcz11_0 hcz11_1 hcz11_2 hcz13_0 hcz13_1 hcz13_2 hcz13_3 hcz13_4 hcz13_5 hcz15_0 hcz15_1 hcz15_2 hcz20_0 hcz20_1 hcz20_2 hcz9_0 hcz9_1 hcz9_2 hfz11_0 hfz11_1 hfz11_2 hfz13_0 hfz13_1 hfz13_2 hfz13_3 hfz13_4 hfz13_5 hfz15_0 hfz15_1 hfz15_2 hfz20_0 hfz20_1 hfz20_2 hfz9_0 hfz9_1 hfz9_2
    try clear p2
    obtain ⟨kq, x29_15, rfl, HA, HJ15, HO_399001, BK397, BK398, BK399, HB⟩ := hcut
    cases kq with
    | zero => exact absurd HA.out (by simp [sr28Read.j1])
    | succ kj15 =>
     have H := HA.out
     clear HA
     simp only [sr28Read.j1] at H
     by_cases c21 : x29_15 = true
     ·subst c21
      rw [if_pos rfl] at H
      replace H := Option.bind_eq_some_iff.mp H
      obtain ⟨⟨t409, t410, t411, t412⟩, A220, H⟩ := H
      try dsimp only at H
      have A22 := aS_ A220
      clear A220
      replace H := Option.bind_eq_some_iff.mp H
      obtain ⟨⟨t413, t414, t415, t416⟩, A230, H⟩ := H
      try dsimp only at H
      have A23 := aS_ A230
      clear A230
      by_cases c24 : x399001_1.length < 5864062014805
      ·rw [if_pos c24] at H
       have LMc24 := aS_ c24
       clear c24
       obtain ⟨y417, hy417⟩ : ∃ y_ : List (S49), y_ = (x399001_1 ++ [(⟨t412, t416⟩ : S49)]) := ⟨_, rfl⟩
       replace H : (sr28Read.l0 kj15 a0 t407 (wrap64 (x7_1 + 1)) t403 y417 false t413 t414 t415) = some (r1, r2, r3, r4, r5, r6, r7) := by first | (rw [hy417]; with_reducible exact H) | (have H2_ := (Option.bind_some _ _).symm.trans H; rw [hy417]; with_reducible exact H2_) | (have H2_ := (Option.bind_some _ _).symm.trans H; with_reducible exact H2_) | with_reducible exact H | (rw [hy417]; exact H) | exact H
       have Ny417 := aS_ hy417
       clear hy417
       have H' := aS_ H
       clear H
       go_wp2_with (first | ((with_reducible refine gate_dst (N := 8) rfl ?_); (try (refine gate_guard (by rfl) ?_; dsimp only)); refine bx_ 8 #[.string (⟨#[]⟩ : ByteArray), .int .i64 0] 49 ?_; intro gb408 hg w25 hbox hb; replace HO_399001 := aS_ (Kd.R_below (Kd.R_elderB (rk HO_399001.out) gb408 (Nat.le_of_eq hg.symm)) hb); have BK408 := aS_ (hbox); have GW408 := ge_ hg (wk HB.out); have GE408 := ge_ hg (wk HB.out); replace HB := bw_ HB hb; have NB397_408 := nq_ hg (bk BK397.out); replace BK397 := bb_ BK397 hb; have NB408_397 := nr_ NB397_408; have NB398_408 := nq_ hg (bk BK398.out); replace BK398 := bb_ BK398 hb; have NB408_398 := nr_ NB398_408; have NB399_408 := nq_ hg (bk BK399.out); replace BK399 := bb_ BK399 hb; have NB408_399 := nr_ NB399_408; clear hb hbox hg; have hnb26 := NB399_397.out; have hnc26 := NB397_399.out; have hnb27 := NB399_398.out; have hnc27 := NB398_399.out; have hnb28 := NB399_408.out; have hnc28 := NB408_399.out; obtain ⟨hcz29_0, hcz29_1, hcz29_2, hfz29_0, hfz29_1, hfz29_2⟩ := c3_ BK399.out) | (refine cl_ (some 34) Try.func29 #[.agg #[.string x400000_1, .int .i64 x400001_1, .int .i64 x400002_1]] ?_; (with_reducible refine (sr28read.calls kj15 x400000_1 x400001_1 x400002_1 t409 t410 t411 t412 _ A22.out).mono ?_); rintro e w30 ⟨rfl, hb⟩; refine ⟨_, rfl, ?_⟩; replace HO_399001 := rb_ HO_399001 hb; replace BK397 := bb_ BK397 hb; replace BK398 := bb_ BK398 hb; replace BK399 := bb_ BK399 hb; replace BK408 := bb_ BK408 hb; replace HB := bw_ HB hb; try clear hb; obtain ⟨hcz31_0, hcz31_1, hcz31_2, hfz31_0, hfz31_1, hfz31_2⟩ := c3_ BK399.out; have hnb32 := NB408_397.out; have hnc32 := NB397_408.out; have hnb33 := NB408_398.out; have hnc33 := NB398_408.out; obtain ⟨hcz34_0, hcz34_1, hfz34_0, hfz34_1⟩ := c2_ BK408.out) | (refine cl_ (some 40) Try.func30 #[.agg #[.string t409, .int .i64 t410, .int .i64 t411], .int .i64 4] ?_; (with_reducible refine (sr28num.calls kj15 t409 t410 t411 4 t413 t414 t415 t416 _ A23.out).mono ?_); rintro e w35 ⟨rfl, hb⟩; refine ⟨_, rfl, ?_⟩; replace HO_399001 := aS_ (Kd.R_below (by (with_reducible repeat (first | apply Kd.R_alloc | apply Kd.R_drewN | apply Kd.R_drew)); exact (Kd.R_mono (Kd.R_mono (Kd.R_far (p := ⟨gb408, 0, none⟩) (Kd.R_far (p := ⟨gb399, 2, none⟩) (Kd.R_far (p := ⟨gb399, 1, none⟩) (Kd.R_far (p := ⟨gb399, 0, none⟩) (Kd.R_mono (Kd.R_types HO_399001.out BK399.out (by decide)) (fun k_ hk => (⟨hk, hk.1.2⟩ : _ ∧ k_ ≠ gb408))) (fun _ hk => hk.1.2) (.string t409)) (fun _ hk => hk.1.2) (.int .i64 t410)) (fun _ hk => hk.1.2) (.int .i64 t411)) (fun _ hk => hk.2) (.string t412)) (fun _ h_ => h_.1)) (fun _ h_ => h_.1))) hb); replace BK397 := aS_ (blk_below (bq BK397.out) hb); replace BK398 := aS_ (blk_below (bq BK398.out) hb); replace BK399 := aS_ (blk_below (g := gb399) (o := .cells #[.string t409, .int .i64 t410, .int .i64 t411] 64 (0, 0)) (bp BK399.out) hb); replace BK408 := aS_ (blk_below (g := gb408) (o := .cells #[.string t412, .int .i64 0] 49 (0, 0)) (bp BK408.out) hb); replace HB := bw_ HB hb; try clear hb; obtain ⟨hcz36_0, hcz36_1, hcz36_2, hfz36_0, hfz36_1, hfz36_2⟩ := c3_ BK399.out; obtain ⟨hcz37_0, hcz37_1, hfz37_0, hfz37_1⟩ := c2_ BK408.out; have hnb38 := NB398_397.out; have hnc38 := NB397_398.out; obtain ⟨hcz39_0, hcz39_1, hcz39_2, hcz39_3, hcz39_4, hcz39_5, hfz39_0, hfz39_1, hfz39_2, hfz39_3, hfz39_4, hfz39_5⟩ := c6_ BK398.out) | ((with_reducible refine gate_builtin (b := .append) (xs := #[.tmp 45, .tmp 47]) rfl ?_); (try (refine gate_guard (by rfl) ?_; dsimp only)); at_builtin; refine Kd.R_append k49 (w0 := w) w.heap.size rfl (.tmp 45) (.tmp 47) 22 49 (.agg #[(.string ⟨#[]⟩), (.int .i64 0)]) 24 rfl Try.underlying22 info49 rfl (by decide) (by omega) u399001 x399001_1 (⟨t412, t416⟩ : S49) [.string t412, .int .i64 t416] (fun k_ => k_ ≠ gb408) (fun _ => False) rfl (by first | (go_simp; done) | (go_simp; rfl)) ?aP (fun _ hk => hk.elim) ?aF ?aO ?aB ?aS ?aL ?_; (case aP => exact k49_mkM _ _ _ (⟨t412, t416⟩ : S49)); (case aB => exact (wk HB.out)); (case aF => exact (fun k_ hk => Kd.freshB (g := gb408) (o := .cells #[.string t412, .int .i64 t416] 49 (0, 0)) (bp BK408.out) k_ hk)); (case aO => exact (by (with_reducible repeat (first | apply Kd.R_alloc | apply Kd.R_drewN | apply Kd.R_drew)); exact Kd.R_mono (Kd.R_far (p := ⟨gb408, 1, none⟩) (Kd.R_far (p := ⟨gb399, 2, none⟩) (Kd.R_far (p := ⟨gb399, 1, none⟩) (Kd.R_far (p := ⟨gb399, 0, none⟩) (Kd.R_mono (Kd.R_types HO_399001.out BK399.out (by decide)) (fun k_ hk => (⟨hk, hk.1.2⟩ : _ ∧ k_ ≠ gb408))) (fun _ hk => hk.1.2) (.string t413)) (fun _ hk => hk.1.2) (.int .i64 t414)) (fun _ hk => hk.1.2) (.int .i64 t415)) (fun _ hk => hk.2) (.int .i64 t416)) (fun _ hk => hk.1.1.2))); (case aS => exact (below_size (wk HB.out))); (case aL => have := LMc24.out; omega); intro v418 w40 ho hb hg hat; rw [← Ny417.out] at ho; have n0_ := aS_ (blk_grown (g := gb397) (o := .cells #[.string (⟨#[]⟩ : ByteArray), .slice none 0 0, .slice none 0 0, .slice none 0 0, .bool false, .slice none 0 0] 26 (0, 0)) (bq BK397.out) hg (Kd.R_ne HO_399001.out BK397.out (by decide))); have n1_ := aS_ (blk_grown (g := gb398) (o := .cells #[.string t403, u399001, .slice none 0 0, .slice none 0 0, .bool false, .slice none 0 0] 26 (0, 0)) (bq BK398.out) hg (Kd.R_ne HO_399001.out BK398.out (by decide))); have n2_ := aS_ (blk_grown (g := gb399) (o := .cells #[.string t413, .int .i64 t414, .int .i64 t415] 64 (0, 0)) (bp BK399.out) hg (Kd.R_ne HO_399001.out BK399.out (by decide))); have n3_ := aS_ (blk_grown (g := gb408) (o := .cells #[.string t412, .int .i64 t416] 49 (0, 0)) (bp BK408.out) hg (Kd.R_away HO_399001.out (fun _ hk => hk.2))); have n4_ := aS_ (hb); have n5_ := aS_ (ho); clear BK397; clear BK398; clear BK399; clear BK408; clear HB; clear HO_399001; have BK397 := n0_; have BK398 := n1_; have BK399 := n2_; have BK408 := n3_; have HB := n4_; have HO419 := n5_; clear n0_ n1_ n2_ n3_ n4_ n5_; clear ho hb hg hat; obtain ⟨Ao41, co41, eo41⟩ := Kd.R_slice HO419.out; subst eo41; obtain ⟨hcz42_0, hcz42_1, hcz42_2, hcz42_3, hcz42_4, hcz42_5, hfz42_0, hfz42_1, hfz42_2, hfz42_3, hfz42_4, hfz42_5⟩ := c6_ BK398.out))
       go_roundg kj15
       case measure => have := HK1.out; have := HJ15.out; omega
       case rel => exact ⟨(wrap64 (x7_1 + 1)), (y417), (t413), (t414), (t415), (.slice Ao41 y417.length co41), t0, H', ⟨by have := HK1.out; have := HJ15.out; omega⟩, ⟨by (with_reducible repeat (first | apply Kd.R_alloc | apply Kd.R_drewN | apply Kd.R_drew)); exact Kd.R_mono (Kd.R_far (p := ⟨gb398, 1, none⟩) (Kd.R_types HO419.out BK398.out (by decide)) (fun _ hk => hk.2) (.slice Ao41 y417.length co41)) (fun _ hk => trivial)⟩, ⟨bq BK397.out⟩, ⟨bp BK398.out⟩, ⟨bq BK399.out⟩, ⟨wk HB.out⟩⟩
      ·rw [if_neg c24] at H
       exact absurd H (by simp)
     ·replace c21 := Bool.eq_false_iff.mpr c21
      subst c21
      rw [if_neg Bool.false_ne_true] at H
      replace H := Option.bind_eq_some_iff.mp H
      obtain ⟨⟨t420, t421, t422, t423⟩, A430, H⟩ := H
      try dsimp only at H
      have A43 := aS_ A430
      clear A430
      replace H := Option.bind_eq_some_iff.mp H
      obtain ⟨⟨t426, t427, t428, t429⟩, A440, H⟩ := H
      try dsimp only at H
      have A44 := aS_ A440
      clear A440
      have HC45 := aS_ H
      clear H
      have hnb46 := NB399_397.out
      have hnc46 := NB397_399.out
      have hnb47 := NB399_398.out
      have hnc47 := NB398_399.out
      obtain ⟨hcz48_0, hcz48_1, hcz48_2, hfz48_0, hfz48_1, hfz48_2⟩ := c3_ BK399.out
      go_upto_region 14 with (first | (refine cl_ (some 52) Try.func31 #[.agg #[.string x400000_1, .int .i64 x400001_1, .int .i64 x400002_1]] ?_; (with_reducible refine (sr28stack.calls kj15 x400000_1 x400001_1 x400002_1 t420 t421 t422 t423 _ A43.out).mono ?_); rintro e w49 ⟨v424, rfl, ho0, hb⟩; refine ⟨_, rfl, ?_⟩; replace HO_399001 := rb_ HO_399001 hb; have HO425 := aS_ (Kd.S_lower ho0 (below_size (wk HB.out))); replace BK397 := bb_ BK397 hb; replace BK398 := bb_ BK398 hb; replace BK399 := bb_ BK399 hb; replace HB := bw_ HB hb; try clear hb; (try clear ho0); obtain ⟨hcz50_0, hcz50_1, hcz50_2, hfz50_0, hfz50_1, hfz50_2⟩ := c3_ BK399.out; obtain ⟨Ao51, co51, eo51⟩ := Kd.S_slice HO425.out; subst eo51; have hnb52 := NB398_397.out; have hnc52 := NB397_398.out; obtain ⟨hcz53_0, hcz53_1, hcz53_2, hcz53_3, hcz53_4, hcz53_5, hfz53_0, hfz53_1, hfz53_2, hfz53_3, hfz53_4, hfz53_5⟩ := c6_ BK398.out) | (refine cl_ (some 58) Try.func31 #[.agg #[.string t420, .int .i64 t421, .int .i64 t422]] ?_; (with_reducible refine (sr28stack.calls kj15 t420 t421 t422 t426 t427 t428 t429 _ A44.out).mono ?_); rintro e w54 ⟨v430, rfl, ho0, hb⟩; refine ⟨_, rfl, ?_⟩; replace HO_399001 := aS_ (Kd.R_below (by (with_reducible repeat (first | apply Kd.R_alloc | apply Kd.R_drewN | apply Kd.R_drew)); exact (Kd.R_mono (Kd.R_mono (Kd.R_far (p := ⟨gb398, 2, none⟩) (Kd.R_far (p := ⟨gb399, 2, none⟩) (Kd.R_far (p := ⟨gb399, 1, none⟩) (Kd.R_far (p := ⟨gb399, 0, none⟩) (Kd.R_types (Kd.R_types HO_399001.out BK399.out (by decide)) BK398.out (by decide)) (fun _ hk => hk.1.2) (.string t420)) (fun _ hk => hk.1.2) (.int .i64 t421)) (fun _ hk => hk.1.2) (.int .i64 t422)) (fun _ hk => hk.2) (.slice Ao51 t423.length co51)) (fun _ h_ => h_.1)) (fun _ h_ => h_.1))) hb); have HO431 := aS_ (Kd.S_lower (Kd.S_new' ho0 (Kd.S_lt (by (with_reducible repeat (first | apply Kd.S_alloc | apply Kd.S_drewN | apply Kd.S_drew)); exact (Kd.S_mono (Kd.S_mono (Kd.S_far (p := ⟨gb398, 2, none⟩) (Kd.S_far (p := ⟨gb399, 2, none⟩) (Kd.S_far (p := ⟨gb399, 1, none⟩) (Kd.S_far (p := ⟨gb399, 0, none⟩) (Kd.S_types (Kd.S_types HO425.out BK399.out (by decide)) BK398.out (by decide)) (fun _ hk => hk.1.2) (.string t420)) (fun _ hk => hk.1.2) (.int .i64 t421)) (fun _ hk => hk.1.2) (.int .i64 t422)) (fun _ hk => hk.2) (.slice Ao51 t423.length co51)) (fun _ h_ => h_.1)) (fun _ h_ => h_.1))))) (below_size (wk HB.out))); replace HO425 := aS_ (Kd.S_elder' (by (with_reducible repeat (first | apply Kd.S_alloc | apply Kd.S_drewN | apply Kd.S_drew)); exact (Kd.S_mono (Kd.S_mono (Kd.S_far (p := ⟨gb398, 2, none⟩) (Kd.S_far (p := ⟨gb399, 2, none⟩) (Kd.S_far (p := ⟨gb399, 1, none⟩) (Kd.S_far (p := ⟨gb399, 0, none⟩) (Kd.S_types (Kd.S_types HO425.out BK399.out (by decide)) BK398.out (by decide)) (fun _ hk => hk.1.2) (.string t420)) (fun _ hk => hk.1.2) (.int .i64 t421)) (fun _ hk => hk.1.2) (.int .i64 t422)) (fun _ hk => hk.2) (.slice Ao51 t423.length co51)) (fun _ h_ => h_.1)) (fun _ h_ => h_.1))) (Kd.S_base ho0) hb); replace BK397 := aS_ (blk_below (bq BK397.out) hb); replace BK398 := aS_ (blk_below (g := gb398) (o := .cells #[.string t403, u399001, .slice Ao51 t423.length co51, .slice none 0 0, .bool false, .slice none 0 0] 26 (0, 0)) (bp BK398.out) hb); replace BK399 := aS_ (blk_below (g := gb399) (o := .cells #[.string t420, .int .i64 t421, .int .i64 t422] 64 (0, 0)) (bp BK399.out) hb); replace HB := bw_ HB hb; try clear hb; (try clear ho0); obtain ⟨hcz55_0, hcz55_1, hcz55_2, hfz55_0, hfz55_1, hfz55_2⟩ := c3_ BK399.out; obtain ⟨Ao56, co56, eo56⟩ := Kd.S_slice HO431.out; subst eo56; obtain ⟨hcz57_0, hcz57_1, hcz57_2, hcz57_3, hcz57_4, hcz57_5, hfz57_0, hfz57_1, hfz57_2, hfz57_3, hfz57_4, hfz57_5⟩ := c6_ BK398.out))
      (try simp only [Act.put, List.setIfInBounds_toArray, List.set_cons_zero, List.set_cons_succ])
      go_cut [71] (fun v71 wc => ∃ (kq : Nat) (x71_44 : Bool), v71 = .bool x71_44 ∧ Aside0 (sr28Read.j2 kq a0 x71_44 t403 x399001_1 t423 t429 false t426 t427 t428 = some (r1, r2, r3, r4, r5, r6, r7)) ∧ Aside0 (kq ≤ kj15) ∧ Aside0 (Kd.R k49 49 wc w.heap.size (fun _ => True) u399001 x399001_1) ∧ Aside0 (Kd.S k38 38 wc w.heap.size (fun k_ => some k_ ≠ ((.slice Ao56 t429.length co56) : Value).ownBlock) (.slice Ao51 t423.length co51) t423) ∧ Aside0 (Kd.S k38 38 wc w.heap.size (fun k_ => some k_ ≠ ((.slice Ao51 t423.length co51) : Value).ownBlock) (.slice Ao56 t429.length co56) t429) ∧ Aside0 (wc.heap[gb397]? = some (.cells #[.string (⟨#[]⟩ : ByteArray), (.slice none 0 0), (.slice none 0 0), (.slice none 0 0), .bool false, (.slice none 0 0)] 26 (0, 0))) ∧ Aside0 (wc.heap[gb398]? = some (.cells #[.string t403, u399001, (.slice Ao51 t423.length co51), (.slice Ao56 t429.length co56), .bool false, (.slice none 0 0)] 26 (0, 0))) ∧ Aside0 (wc.heap[gb399]? = some (.cells #[.string t426, .int .i64 t427, .int .i64 t428] 64 (0, 0))) ∧ Aside0 (Below w.heap.size w wc))
      case first =>
       have H := HC45.out
       clear HC45
       by_cases c58 : t428 = 0
       ·rw [if_pos c58] at H
        have c58b0 := beq_iff_eq.mpr c58
        have c58b1 := bne_eq_false_iff_eq.mpr c58
        clear c58
        (first | rw [c58b0] | (simp only [i64_w, i32_w]; rw [c58b0]) | skip)
        have H' := aS_ H
        clear H
        have hnb59 := NB399_397.out
        have hnc59 := NB397_399.out
        have hnb60 := NB399_398.out
        have hnc60 := NB398_399.out
        obtain ⟨hcz61_0, hcz61_1, hcz61_2, hfz61_0, hfz61_1, hfz61_2⟩ := c3_ BK399.out
        go_wp2
        go_meet
        case rel => exact ⟨_, ((t427 == (a0.size : Int))), t0, H', ⟨by have := HK1.out; have := HJ15.out; first | omega | exact Nat.le_refl _⟩, ⟨by (with_reducible repeat (first | apply Kd.R_alloc | apply Kd.R_drewN | apply Kd.R_drew)); exact Kd.R_mono (Kd.R_far (p := ⟨gb398, 3, none⟩) (Kd.R_far (p := ⟨gb399, 2, none⟩) (Kd.R_far (p := ⟨gb399, 1, none⟩) (Kd.R_far (p := ⟨gb399, 0, none⟩) (Kd.R_types (Kd.R_types HO_399001.out BK399.out (by decide)) BK398.out (by decide)) (fun _ hk => hk.1.2) (.string t426)) (fun _ hk => hk.1.2) (.int .i64 t427)) (fun _ hk => hk.1.2) (.int .i64 t428)) (fun _ hk => hk.2) (.slice Ao56 t429.length co56)) (fun _ hk => trivial)⟩, ⟨by (with_reducible repeat (first | apply Kd.S_alloc | apply Kd.S_drewN | apply Kd.S_drew)); exact Kd.S_mono (Kd.S_far (p := ⟨gb398, 3, none⟩) (Kd.S_far (p := ⟨gb399, 2, none⟩) (Kd.S_far (p := ⟨gb399, 1, none⟩) (Kd.S_far (p := ⟨gb399, 0, none⟩) (Kd.S_types (Kd.S_types HO425.out BK399.out (by decide)) BK398.out (by decide)) (fun _ hk => hk.1.2) (.string t426)) (fun _ hk => hk.1.2) (.int .i64 t427)) (fun _ hk => hk.1.2) (.int .i64 t428)) (fun _ hk => hk.2) (.slice Ao56 t429.length co56)) (fun _ hk => hk.1.1.2)⟩, ⟨by (with_reducible repeat (first | apply Kd.S_alloc | apply Kd.S_drewN | apply Kd.S_drew)); exact Kd.S_mono (Kd.S_far (p := ⟨gb398, 3, none⟩) (Kd.S_far (p := ⟨gb399, 2, none⟩) (Kd.S_far (p := ⟨gb399, 1, none⟩) (Kd.S_far (p := ⟨gb399, 0, none⟩) (Kd.S_types (Kd.S_types HO431.out BK399.out (by decide)) BK398.out (by decide)) (fun _ hk => hk.1.2) (.string t426)) (fun _ hk => hk.1.2) (.int .i64 t427)) (fun _ hk => hk.1.2) (.int .i64 t428)) (fun _ hk => hk.2) (.slice Ao56 t429.length co56)) (fun _ hk => hk.1.1.2)⟩, ⟨bq BK397.out⟩, ⟨bp BK398.out⟩, ⟨bp BK399.out⟩, ⟨wk HB.out⟩⟩
       ·rw [if_neg c58] at H
        have c58b0 := beq_eq_false_iff_ne.mpr c58
        have c58b1 := bne_iff_ne.mpr c58
        (first | rw [c58b0] | (simp only [i64_w, i32_w]; rw [c58b0]) | skip)
        have H' := aS_ H
        clear H
        have hnb62 := NB399_397.out
        have hnc62 := NB397_399.out
        have hnb63 := NB399_398.out
        have hnc63 := NB398_399.out
        obtain ⟨hcz64_0, hcz64_1, hcz64_2, hfz64_0, hfz64_1, hfz64_2⟩ := c3_ BK399.out
        go_wp2
        go_meet
        case rel => exact ⟨_, (false), t0, H', ⟨by have := HK1.out; have := HJ15.out; first | omega | exact Nat.le_refl _⟩, ⟨by (with_reducible repeat (first | apply Kd.R_alloc | apply Kd.R_drewN | apply Kd.R_drew)); exact Kd.R_mono (Kd.R_far (p := ⟨gb398, 3, none⟩) (Kd.R_far (p := ⟨gb399, 2, none⟩) (Kd.R_far (p := ⟨gb399, 1, none⟩) (Kd.R_far (p := ⟨gb399, 0, none⟩) (Kd.R_types (Kd.R_types HO_399001.out BK399.out (by decide)) BK398.out (by decide)) (fun _ hk => hk.1.2) (.string t426)) (fun _ hk => hk.1.2) (.int .i64 t427)) (fun _ hk => hk.1.2) (.int .i64 t428)) (fun _ hk => hk.2) (.slice Ao56 t429.length co56)) (fun _ hk => trivial)⟩, ⟨by (with_reducible repeat (first | apply Kd.S_alloc | apply Kd.S_drewN | apply Kd.S_drew)); exact Kd.S_mono (Kd.S_far (p := ⟨gb398, 3, none⟩) (Kd.S_far (p := ⟨gb399, 2, none⟩) (Kd.S_far (p := ⟨gb399, 1, none⟩) (Kd.S_far (p := ⟨gb399, 0, none⟩) (Kd.S_types (Kd.S_types HO425.out BK399.out (by decide)) BK398.out (by decide)) (fun _ hk => hk.1.2) (.string t426)) (fun _ hk => hk.1.2) (.int .i64 t427)) (fun _ hk => hk.1.2) (.int .i64 t428)) (fun _ hk => hk.2) (.slice Ao56 t429.length co56)) (fun _ hk => hk.1.1.2)⟩, ⟨by (with_reducible repeat (first | apply Kd.S_alloc | apply Kd.S_drewN | apply Kd.S_drew)); exact Kd.S_mono (Kd.S_far (p := ⟨gb398, 3, none⟩) (Kd.S_far (p := ⟨gb399, 2, none⟩) (Kd.S_far (p := ⟨gb399, 1, none⟩) (Kd.S_far (p := ⟨gb399, 0, none⟩) (Kd.S_types (Kd.S_types HO431.out BK399.out (by decide)) BK398.out (by decide)) (fun _ hk => hk.1.2) (.string t426)) (fun _ hk => hk.1.2) (.int .i64 t427)) (fun _ hk => hk.1.2) (.int .i64 t428)) (fun _ hk => hk.2) (.slice Ao56 t429.length co56)) (fun _ hk => hk.1.1.2)⟩, ⟨bq BK397.out⟩, ⟨bp BK398.out⟩, ⟨bp BK399.out⟩, ⟨wk HB.out⟩⟩
      case rest =>
       clear HC45
       try clear c1
       try clear c2
       try clear p2
       try clear c3
       try clear c4
       try clear c5
       try clear c6
       try clear p6
       try clear c7
       try clear c8
       try clear c11
       try clear c12
       try clear c17
       try clear c17b0
       try clear c18
       try clear c19
       try clear c21
       try clear c24
       try clear c26
       try clear c27
       try clear c28
       try clear c29
       try clear c30
       try clear c31
       try clear c32
       try clear c33
       try clear c38
       try clear c46
       try clear c47
       try clear c52
       try clear c58
       try clear c58b0
       try clear c58b1
       try clear c59
       try clear c60
       try clear c62
       try clear c63
       try clear p64
       try clear hcz11_0 hcz11_1 hcz11_2 hcz13_0 hcz13_1 hcz13_2 hcz13_3 hcz13_4 hcz13_5 hcz15_0 hcz15_1 hcz15_2 hcz20_0 hcz20_1 hcz20_2 hcz29_0 hcz29_1 hcz29_2 hcz31_0 hcz31_1 hcz31_2 hcz34_0 hcz34_1 hcz36_0 hcz36_1 hcz36_2 hcz37_0 hcz37_1 hcz39_0 hcz39_1 hcz39_2 hcz39_3 hcz39_4 hcz39_5 hcz42_0 hcz42_1 hcz42_2 hcz42_3 hcz42_4 hcz42_5 hcz48_0 hcz48_1 hcz48_2 hcz50_0 hcz50_1 hcz50_2 hcz53_0 hcz53_1 hcz53_2 hcz53_3 hcz53_4 hcz53_5 hcz55_0 hcz55_1 hcz55_2 hcz57_0 hcz57_1 hcz57_2 hcz57_3 hcz57_4 hcz57_5 hcz61_0 hcz61_1 hcz61_2 hcz64_0 hcz64_1 hcz64_2 hcz9_0 hcz9_1 hcz9_2 hfz11_0 hfz11_1 hfz11_2 hfz13_0 hfz13_1 hfz13_2 hfz13_3 hfz13_4 hfz13_5 hfz15_0 hfz15_1 hfz15_2 hfz20_0 hfz20_1 hfz20_2 hfz29_0 hfz29_1 hfz29_2 hfz31_0 hfz31_1 hfz31_2 hfz34_0 hfz34_1 hfz36_0 hfz36_1 hfz36_2 hfz37_0 hfz37_1 hfz39_0 hfz39_1 hfz39_2 hfz39_3 hfz39_4 hfz39_5 hfz42_0 hfz42_1 hfz42_2 hfz42_3 hfz42_4 hfz42_5 hfz48_0 hfz48_1 hfz48_2 hfz50_0 hfz50_1 hfz50_2 hfz53_0 hfz53_1 hfz53_2 hfz53_3 hfz53_4 hfz53_5 hfz55_0 hfz55_1 hfz55_2 hfz57_0 hfz57_1 hfz57_2 hfz57_3 hfz57_4 hfz57_5 hfz61_0 hfz61_1 hfz61_2 hfz64_0 hfz64_1 hfz64_2 hfz9_0 hfz9_1 hfz9_2
       try clear p2
       obtain ⟨kq, x71_44, rfl, HA, HJ44, HO_399001, HO_399002, HO_399003, BK397, BK398, BK399, HB⟩ := hcut
       cases kq with
       | zero => exact absurd HA.out (by simp [sr28Read.j2])
       | succ kj44 =>
        have H := HA.out
        clear HA
        simp only [sr28Read.j2] at H
        have HC65 := aS_ H
        clear H
        go_upto_if 71 with (fail)
        go_cut [] (fun wc => ∃ (kq : Nat) (x400002_64 : Int), Aside0 (sr28Read.j3 kq a0 t403 x399001_1 t423 t429 false t426 t427 x400002_64 = some (r1, r2, r3, r4, r5, r6, r7)) ∧ Aside0 (kq ≤ kj44) ∧ Aside0 (Kd.R k49 49 wc w.heap.size (fun _ => True) u399001 x399001_1) ∧ Aside0 (Kd.S k38 38 wc w.heap.size (fun k_ => some k_ ≠ ((.slice Ao56 t429.length co56) : Value).ownBlock) (.slice Ao51 t423.length co51) t423) ∧ Aside0 (Kd.S k38 38 wc w.heap.size (fun k_ => some k_ ≠ ((.slice Ao51 t423.length co51) : Value).ownBlock) (.slice Ao56 t429.length co56) t429) ∧ Aside0 (wc.heap[gb397]? = some (.cells #[.string (⟨#[]⟩ : ByteArray), (.slice none 0 0), (.slice none 0 0), (.slice none 0 0), .bool false, (.slice none 0 0)] 26 (0, 0))) ∧ Aside0 (wc.heap[gb398]? = some (.cells #[.string t403, u399001, (.slice Ao51 t423.length co51), (.slice Ao56 t429.length co56), .bool false, (.slice none 0 0)] 26 (0, 0))) ∧ Aside0 (wc.heap[gb399]? = some (.cells #[.string t426, .int .i64 t427, .int .i64 x400002_64] 64 (0, 0))) ∧ Aside0 (Below w.heap.size w wc))
        case first =>
         have H := HC65.out
         clear HC65
         by_cases c66 : x71_44 = true
         ·subst c66
          rw [if_pos rfl] at H
          have H' := aS_ H
          clear H
          have hnb67 := NB399_397.out
          have hnc67 := NB397_399.out
          have hnb68 := NB399_398.out
          have hnc68 := NB398_399.out
          obtain ⟨hcz69_0, hcz69_1, hcz69_2, hfz69_0, hfz69_1, hfz69_2⟩ := c3_ BK399.out
          go_wp2
          go_meet
          case rel => exact ⟨_, (18), H', ⟨by have := HK1.out; have := HJ15.out; have := HJ44.out; first | omega | exact Nat.le_refl _⟩, ⟨by (with_reducible repeat (first | apply Kd.R_alloc | apply Kd.R_drewN | apply Kd.R_drew)); exact Kd.R_mono (Kd.R_far (p := ⟨gb399, 2, none⟩) (Kd.R_types HO_399001.out BK399.out (by decide)) (fun _ hk => hk.2) (.int .i64 18)) (fun _ hk => trivial)⟩, ⟨by (with_reducible repeat (first | apply Kd.S_alloc | apply Kd.S_drewN | apply Kd.S_drew)); exact Kd.S_mono (Kd.S_far (p := ⟨gb399, 2, none⟩) (Kd.S_types HO_399002.out BK399.out (by decide)) (fun _ hk => hk.2) (.int .i64 18)) (fun _ hk => hk.1)⟩, ⟨by (with_reducible repeat (first | apply Kd.S_alloc | apply Kd.S_drewN | apply Kd.S_drew)); exact Kd.S_mono (Kd.S_far (p := ⟨gb399, 2, none⟩) (Kd.S_types HO_399003.out BK399.out (by decide)) (fun _ hk => hk.2) (.int .i64 18)) (fun _ hk => hk.1)⟩, ⟨bq BK397.out⟩, ⟨bq BK398.out⟩, ⟨bp BK399.out⟩, ⟨wk HB.out⟩⟩
         ·replace c66 := Bool.eq_false_iff.mpr c66
          subst c66
          rw [if_neg Bool.false_ne_true] at H
          have H' := aS_ H
          clear H
          go_wp2
          go_meet
          case rel => exact ⟨_, (t428), H', ⟨by have := HK1.out; have := HJ15.out; have := HJ44.out; first | omega | exact Nat.le_refl _⟩, ⟨rk HO_399001.out⟩, ⟨sk HO_399002.out⟩, ⟨sk HO_399003.out⟩, ⟨bq BK397.out⟩, ⟨bq BK398.out⟩, ⟨bq BK399.out⟩, ⟨wk HB.out⟩⟩
        case rest =>
         clear HC65
         try clear c1
         try clear c2
         try clear p2
         try clear c3
         try clear c4
         try clear c5
         try clear c6
         try clear p6
         try clear c7
         try clear c8
         try clear c11
         try clear c12
         try clear c17
         try clear c17b0
         try clear c18
         try clear c19
         try clear c21
         try clear c24
         try clear c26
         try clear c27
         try clear c28
         try clear c29
         try clear c30
         try clear c31
         try clear c32
         try clear c33
         try clear c38
         try clear c46
         try clear c47
         try clear c52
         try clear c58
         try clear c58b0
         try clear c58b1
         try clear c59
         try clear c60
         try clear c62
         try clear c63
         try clear p64
         try clear c66
         try clear c67
         try clear c68
         try clear hcz11_0 hcz11_1 hcz11_2 hcz13_0 hcz13_1 hcz13_2 hcz13_3 hcz13_4 hcz13_5 hcz15_0 hcz15_1 hcz15_2 hcz20_0 hcz20_1 hcz20_2 hcz29_0 hcz29_1 hcz29_2 hcz31_0 hcz31_1 hcz31_2 hcz34_0 hcz34_1 hcz36_0 hcz36_1 hcz36_2 hcz37_0 hcz37_1 hcz39_0 hcz39_1 hcz39_2 hcz39_3 hcz39_4 hcz39_5 hcz42_0 hcz42_1 hcz42_2 hcz42_3 hcz42_4 hcz42_5 hcz48_0 hcz48_1 hcz48_2 hcz50_0 hcz50_1 hcz50_2 hcz53_0 hcz53_1 hcz53_2 hcz53_3 hcz53_4 hcz53_5 hcz55_0 hcz55_1 hcz55_2 hcz57_0 hcz57_1 hcz57_2 hcz57_3 hcz57_4 hcz57_5 hcz61_0 hcz61_1 hcz61_2 hcz64_0 hcz64_1 hcz64_2 hcz69_0 hcz69_1 hcz69_2 hcz9_0 hcz9_1 hcz9_2 hfz11_0 hfz11_1 hfz11_2 hfz13_0 hfz13_1 hfz13_2 hfz13_3 hfz13_4 hfz13_5 hfz15_0 hfz15_1 hfz15_2 hfz20_0 hfz20_1 hfz20_2 hfz29_0 hfz29_1 hfz29_2 hfz31_0 hfz31_1 hfz31_2 hfz34_0 hfz34_1 hfz36_0 hfz36_1 hfz36_2 hfz37_0 hfz37_1 hfz39_0 hfz39_1 hfz39_2 hfz39_3 hfz39_4 hfz39_5 hfz42_0 hfz42_1 hfz42_2 hfz42_3 hfz42_4 hfz42_5 hfz48_0 hfz48_1 hfz48_2 hfz50_0 hfz50_1 hfz50_2 hfz53_0 hfz53_1 hfz53_2 hfz53_3 hfz53_4 hfz53_5 hfz55_0 hfz55_1 hfz55_2 hfz57_0 hfz57_1 hfz57_2 hfz57_3 hfz57_4 hfz57_5 hfz61_0 hfz61_1 hfz61_2 hfz64_0 hfz64_1 hfz64_2 hfz69_0 hfz69_1 hfz69_2 hfz9_0 hfz9_1 hfz9_2
         try clear p2
         try clear p6
         try clear p64
         obtain ⟨kq, x400002_64, HA, HJ64, HO_399001, HO_399002, HO_399003, BK397, BK398, BK399, HB⟩ := hcut
         cases kq with
         | zero => exact absurd HA.out (by simp [sr28Read.j3])
         | succ kj64 =>
          have H := HA.out
          clear HA
          simp only [sr28Read.j3] at H
          have HC70 := aS_ H
          clear H
          go_upto_region 16 with (fail)
          go_cut [82] (fun v82 wc => ∃ (kq : Nat) (x82_69 : Bool), v82 = .bool x82_69 ∧ Aside0 (sr28Read.j4 kq a0 x82_69 t403 x399001_1 t423 t429 false t426 t427 x400002_64 = some (r1, r2, r3, r4, r5, r6, r7)) ∧ Aside0 (kq ≤ kj64) ∧ Aside0 (Kd.R k49 49 wc w.heap.size (fun _ => True) u399001 x399001_1) ∧ Aside0 (Kd.S k38 38 wc w.heap.size (fun k_ => some k_ ≠ ((.slice Ao56 t429.length co56) : Value).ownBlock) (.slice Ao51 t423.length co51) t423) ∧ Aside0 (Kd.S k38 38 wc w.heap.size (fun k_ => some k_ ≠ ((.slice Ao51 t423.length co51) : Value).ownBlock) (.slice Ao56 t429.length co56) t429) ∧ Aside0 (wc.heap[gb397]? = some (.cells #[.string (⟨#[]⟩ : ByteArray), (.slice none 0 0), (.slice none 0 0), (.slice none 0 0), .bool false, (.slice none 0 0)] 26 (0, 0))) ∧ Aside0 (wc.heap[gb398]? = some (.cells #[.string t403, u399001, (.slice Ao51 t423.length co51), (.slice Ao56 t429.length co56), .bool false, (.slice none 0 0)] 26 (0, 0))) ∧ Aside0 (wc.heap[gb399]? = some (.cells #[.string t426, .int .i64 t427, .int .i64 x400002_64] 64 (0, 0))) ∧ Aside0 (Below w.heap.size w wc))
          case first =>
           have H := HC70.out
           clear HC70
           by_cases c71 : x400002_64 = 0
           ·rw [if_pos c71] at H
            have c71b0 := beq_iff_eq.mpr c71
            have c71b1 := bne_eq_false_iff_eq.mpr c71
            clear c71
            (first | rw [c71b0] | (simp only [i64_w, i32_w]; rw [c71b0]) | skip)
            by_cases c72 : 0 ≤ t427
            ·rw [if_pos c72] at H
             have c72b0 := decide_eq_true c72
             clear c72
             by_cases c73 : t427 < (a0.size : Int)
             ·rw [if_pos c73] at H
              have c73b0 := decide_eq_true c73
              clear c73
              have H' := aS_ H
              clear H
              have hnb75 := NB399_397.out
              have hnc75 := NB397_399.out
              have hnb76 := NB399_398.out
              have hnc76 := NB398_399.out
              obtain ⟨hcz77_0, hcz77_1, hcz77_2, hfz77_0, hfz77_1, hfz77_2⟩ := c3_ BK399.out
              have p74 : 0 ≤ (t427 : Int) := of_decide_eq_true (by first | (with_reducible assumption) | assumption)
              have q74 : t427 < (a0.size : Int) := of_decide_eq_true (by first | (with_reducible assumption) | assumption)
              have hx74 := bt_at a0 t427
              replace p74 := eq_true p74
              replace q74 := eq_true q74
              go_wp2
              go_meet
              case rel => exact ⟨_, (decide ((bt a0 t427) > 1)), t0, H', ⟨by have := HK1.out; have := HJ15.out; have := HJ44.out; have := HJ64.out; first | omega | exact Nat.le_refl _⟩, ⟨rk HO_399001.out⟩, ⟨sk HO_399002.out⟩, ⟨sk HO_399003.out⟩, ⟨bq BK397.out⟩, ⟨bq BK398.out⟩, ⟨bq BK399.out⟩, ⟨wk HB.out⟩⟩
             ·rw [if_neg c73] at H
              exact absurd H (by simp)
            ·rw [if_neg c72] at H
             exact absurd H (by simp)
           ·rw [if_neg c71] at H
            have c71b0 := beq_eq_false_iff_ne.mpr c71
            have c71b1 := bne_iff_ne.mpr c71
            (first | rw [c71b0] | (simp only [i64_w, i32_w]; rw [c71b0]) | skip)
            have H' := aS_ H
            clear H
            have hnb78 := NB399_397.out
            have hnc78 := NB397_399.out
            have hnb79 := NB399_398.out
            have hnc79 := NB398_399.out
            obtain ⟨hcz80_0, hcz80_1, hcz80_2, hfz80_0, hfz80_1, hfz80_2⟩ := c3_ BK399.out
            go_wp2
            go_meet
            case rel => exact ⟨_, (false), t0, H', ⟨by have := HK1.out; have := HJ15.out; have := HJ44.out; have := HJ64.out; first | omega | exact Nat.le_refl _⟩, ⟨rk HO_399001.out⟩, ⟨sk HO_399002.out⟩, ⟨sk HO_399003.out⟩, ⟨bq BK397.out⟩, ⟨bq BK398.out⟩, ⟨bq BK399.out⟩, ⟨wk HB.out⟩⟩
          case rest =>
           clear HC70
           try clear c1
           try clear c2
           try clear p2
           try clear c3
           try clear c4
           try clear c5
           try clear c6
           try clear p6
           try clear c7
           try clear p7
           try clear q7
           try clear hx7
           try clear c8
           try clear c11
           try clear c12
           try clear c17
           try clear c17b0
           try clear c18
           try clear c19
           try clear c21
           try clear c24
           try clear c26
           try clear c27
           try clear c28
           try clear c29
           try clear c30
           try clear c31
           try clear c32
           try clear c33
           try clear c38
           try clear c46
           try clear c47
           try clear c52
           try clear c58
           try clear c58b0
           try clear c58b1
           try clear c59
           try clear c60
           try clear c62
           try clear c63
           try clear p64
           try clear c66
           try clear c67
           try clear c68
           try clear c71
           try clear c71b0
           try clear c71b1
           try clear c72
           try clear c72b0
           try clear c73
           try clear c73b0
           try clear p74
           try clear q74
           try clear hx74
           try clear c75
           try clear c76
           try clear c78
           try clear c79
           try clear hcz11_0 hcz11_1 hcz11_2 hcz13_0 hcz13_1 hcz13_2 hcz13_3 hcz13_4 hcz13_5 hcz15_0 hcz15_1 hcz15_2 hcz20_0 hcz20_1 hcz20_2 hcz29_0 hcz29_1 hcz29_2 hcz31_0 hcz31_1 hcz31_2 hcz34_0 hcz34_1 hcz36_0 hcz36_1 hcz36_2 hcz37_0 hcz37_1 hcz39_0 hcz39_1 hcz39_2 hcz39_3 hcz39_4 hcz39_5 hcz42_0 hcz42_1 hcz42_2 hcz42_3 hcz42_4 hcz42_5 hcz48_0 hcz48_1 hcz48_2 hcz50_0 hcz50_1 hcz50_2 hcz53_0 hcz53_1 hcz53_2 hcz53_3 hcz53_4 hcz53_5 hcz55_0 hcz55_1 hcz55_2 hcz57_0 hcz57_1 hcz57_2 hcz57_3 hcz57_4 hcz57_5 hcz61_0 hcz61_1 hcz61_2 hcz64_0 hcz64_1 hcz64_2 hcz69_0 hcz69_1 hcz69_2 hcz77_0 hcz77_1 hcz77_2 hcz80_0 hcz80_1 hcz80_2 hcz9_0 hcz9_1 hcz9_2 hfz11_0 hfz11_1 hfz11_2 hfz13_0 hfz13_1 hfz13_2 hfz13_3 hfz13_4 hfz13_5 hfz15_0 hfz15_1 hfz15_2 hfz20_0 hfz20_1 hfz20_2 hfz29_0 hfz29_1 hfz29_2 hfz31_0 hfz31_1 hfz31_2 hfz34_0 hfz34_1 hfz36_0 hfz36_1 hfz36_2 hfz37_0 hfz37_1 hfz39_0 hfz39_1 hfz39_2 hfz39_3 hfz39_4 hfz39_5 hfz42_0 hfz42_1 hfz42_2 hfz42_3 hfz42_4 hfz42_5 hfz48_0 hfz48_1 hfz48_2 hfz50_0 hfz50_1 hfz50_2 hfz53_0 hfz53_1 hfz53_2 hfz53_3 hfz53_4 hfz53_5 hfz55_0 hfz55_1 hfz55_2 hfz57_0 hfz57_1 hfz57_2 hfz57_3 hfz57_4 hfz57_5 hfz61_0 hfz61_1 hfz61_2 hfz64_0 hfz64_1 hfz64_2 hfz69_0 hfz69_1 hfz69_2 hfz77_0 hfz77_1 hfz77_2 hfz80_0 hfz80_1 hfz80_2 hfz9_0 hfz9_1 hfz9_2
           try clear p2
           try clear p6
           try clear p64
           try clear p74
           try clear q74
           obtain ⟨kq, x82_69, rfl, HA, HJ69, HO_399001, HO_399002, HO_399003, BK397, BK398, BK399, HB⟩ := hcut
           cases kq with
           | zero => exact absurd HA.out (by simp [sr28Read.j4])
           | succ kj69 =>
            have H := HA.out
            clear HA
            simp only [sr28Read.j4] at H
            have HC81 := aS_ H
            clear H
            go_upto_if 82 with (fail)
            go_cut [] (fun wc => ∃ (kq : Nat) (x400002_80 : Int), Aside0 (sr28Read.j5 kq a0 t403 x399001_1 t423 t429 false t426 t427 x400002_80 = some (r1, r2, r3, r4, r5, r6, r7)) ∧ Aside0 (kq ≤ kj69) ∧ Aside0 (Kd.R k49 49 wc w.heap.size (fun _ => True) u399001 x399001_1) ∧ Aside0 (Kd.S k38 38 wc w.heap.size (fun k_ => some k_ ≠ ((.slice Ao56 t429.length co56) : Value).ownBlock) (.slice Ao51 t423.length co51) t423) ∧ Aside0 (Kd.S k38 38 wc w.heap.size (fun k_ => some k_ ≠ ((.slice Ao51 t423.length co51) : Value).ownBlock) (.slice Ao56 t429.length co56) t429) ∧ Aside0 (wc.heap[gb397]? = some (.cells #[.string (⟨#[]⟩ : ByteArray), (.slice none 0 0), (.slice none 0 0), (.slice none 0 0), .bool false, (.slice none 0 0)] 26 (0, 0))) ∧ Aside0 (wc.heap[gb398]? = some (.cells #[.string t403, u399001, (.slice Ao51 t423.length co51), (.slice Ao56 t429.length co56), .bool false, (.slice none 0 0)] 26 (0, 0))) ∧ Aside0 (wc.heap[gb399]? = some (.cells #[.string t426, .int .i64 t427, .int .i64 x400002_80] 64 (0, 0))) ∧ Aside0 (Below w.heap.size w wc))
            case first =>
             have H := HC81.out
             clear HC81
             by_cases c82 : x82_69 = true
             ·subst c82
              rw [if_pos rfl] at H
              have H' := aS_ H
              clear H
              have hnb83 := NB399_397.out
              have hnc83 := NB397_399.out
              have hnb84 := NB399_398.out
              have hnc84 := NB398_399.out
              obtain ⟨hcz85_0, hcz85_1, hcz85_2, hfz85_0, hfz85_1, hfz85_2⟩ := c3_ BK399.out
              go_wp2
              go_meet
              case rel => exact ⟨_, (5), H', ⟨by have := HK1.out; have := HJ15.out; have := HJ44.out; have := HJ64.out; have := HJ69.out; first | omega | exact Nat.le_refl _⟩, ⟨by (with_reducible repeat (first | apply Kd.R_alloc | apply Kd.R_drewN | apply Kd.R_drew)); exact Kd.R_mono (Kd.R_far (p := ⟨gb399, 2, none⟩) (Kd.R_types HO_399001.out BK399.out (by decide)) (fun _ hk => hk.2) (.int .i64 5)) (fun _ hk => trivial)⟩, ⟨by (with_reducible repeat (first | apply Kd.S_alloc | apply Kd.S_drewN | apply Kd.S_drew)); exact Kd.S_mono (Kd.S_far (p := ⟨gb399, 2, none⟩) (Kd.S_types HO_399002.out BK399.out (by decide)) (fun _ hk => hk.2) (.int .i64 5)) (fun _ hk => hk.1)⟩, ⟨by (with_reducible repeat (first | apply Kd.S_alloc | apply Kd.S_drewN | apply Kd.S_drew)); exact Kd.S_mono (Kd.S_far (p := ⟨gb399, 2, none⟩) (Kd.S_types HO_399003.out BK399.out (by decide)) (fun _ hk => hk.2) (.int .i64 5)) (fun _ hk => hk.1)⟩, ⟨bq BK397.out⟩, ⟨bq BK398.out⟩, ⟨bp BK399.out⟩, ⟨wk HB.out⟩⟩
             ·replace c82 := Bool.eq_false_iff.mpr c82
              subst c82
              rw [if_neg Bool.false_ne_true] at H
              have H' := aS_ H
              clear H
              go_wp2
              go_meet
              case rel => exact ⟨_, (x400002_64), H', ⟨by have := HK1.out; have := HJ15.out; have := HJ44.out; have := HJ64.out; have := HJ69.out; first | omega | exact Nat.le_refl _⟩, ⟨rk HO_399001.out⟩, ⟨sk HO_399002.out⟩, ⟨sk HO_399003.out⟩, ⟨bq BK397.out⟩, ⟨bq BK398.out⟩, ⟨bq BK399.out⟩, ⟨wk HB.out⟩⟩
            case rest =>
             clear HC81
             try clear c1
             try clear c2
             try clear p2
             try clear c3
             try clear c4
             try clear c5
             try clear c6
             try clear p6
             try clear c7
             try clear p7
             try clear q7
             try clear hx7
             try clear c8
             try clear c11
             try clear c12
             try clear c17
             try clear c17b0
             try clear c18
             try clear c19
             try clear c21
             try clear c24
             try clear c26
             try clear c27
             try clear c28
             try clear c29
             try clear c30
             try clear c31
             try clear c32
             try clear c33
             try clear c38
             try clear c46
             try clear c47
             try clear c52
             try clear c58
             try clear c58b0
             try clear c58b1
             try clear c59
             try clear c60
             try clear c62
             try clear c63
             try clear p64
             try clear c66
             try clear c67
             try clear c68
             try clear c71
             try clear c71b0
             try clear c71b1
             try clear c72
             try clear c72b0
             try clear c73
             try clear c73b0
             try clear p74
             try clear q74
             try clear hx74
             try clear c75
             try clear c76
             try clear c78
             try clear c79
             try clear c82
             try clear c83
             try clear c84
             try clear hcz11_0 hcz11_1 hcz11_2 hcz13_0 hcz13_1 hcz13_2 hcz13_3 hcz13_4 hcz13_5 hcz15_0 hcz15_1 hcz15_2 hcz20_0 hcz20_1 hcz20_2 hcz29_0 hcz29_1 hcz29_2 hcz31_0 hcz31_1 hcz31_2 hcz34_0 hcz34_1 hcz36_0 hcz36_1 hcz36_2 hcz37_0 hcz37_1 hcz39_0 hcz39_1 hcz39_2 hcz39_3 hcz39_4 hcz39_5 hcz42_0 hcz42_1 hcz42_2 hcz42_3 hcz42_4 hcz42_5 hcz48_0 hcz48_1 hcz48_2 hcz50_0 hcz50_1 hcz50_2 hcz53_0 hcz53_1 hcz53_2 hcz53_3 hcz53_4 hcz53_5 hcz55_0 hcz55_1 hcz55_2 hcz57_0 hcz57_1 hcz57_2 hcz57_3 hcz57_4 hcz57_5 hcz61_0 hcz61_1 hcz61_2 hcz64_0 hcz64_1 hcz64_2 hcz69_0 hcz69_1 hcz69_2 hcz77_0 hcz77_1 hcz77_2 hcz80_0 hcz80_1 hcz80_2 hcz85_0 hcz85_1 hcz85_2 hcz9_0 hcz9_1 hcz9_2 hfz11_0 hfz11_1 hfz11_2 hfz13_0 hfz13_1 hfz13_2 hfz13_3 hfz13_4 hfz13_5 hfz15_0 hfz15_1 hfz15_2 hfz20_0 hfz20_1 hfz20_2 hfz29_0 hfz29_1 hfz29_2 hfz31_0 hfz31_1 hfz31_2 hfz34_0 hfz34_1 hfz36_0 hfz36_1 hfz36_2 hfz37_0 hfz37_1 hfz39_0 hfz39_1 hfz39_2 hfz39_3 hfz39_4 hfz39_5 hfz42_0 hfz42_1 hfz42_2 hfz42_3 hfz42_4 hfz42_5 hfz48_0 hfz48_1 hfz48_2 hfz50_0 hfz50_1 hfz50_2 hfz53_0 hfz53_1 hfz53_2 hfz53_3 hfz53_4 hfz53_5 hfz55_0 hfz55_1 hfz55_2 hfz57_0 hfz57_1 hfz57_2 hfz57_3 hfz57_4 hfz57_5 hfz61_0 hfz61_1 hfz61_2 hfz64_0 hfz64_1 hfz64_2 hfz69_0 hfz69_1 hfz69_2 hfz77_0 hfz77_1 hfz77_2 hfz80_0 hfz80_1 hfz80_2 hfz85_0 hfz85_1 hfz85_2 hfz9_0 hfz9_1 hfz9_2
             try clear p2
             try clear p6
             try clear p64
             try clear p7
             try clear p74
             try clear q7
             try clear q74
             obtain ⟨kq, x400002_80, HA, HJ80, HO_399001, HO_399002, HO_399003, BK397, BK398, BK399, HB⟩ := hcut
             cases kq with
             | zero => exact absurd HA.out (by simp [sr28Read.j5])
             | succ kj80 =>
              have H := HA.out
              clear HA
              simp only [sr28Read.j5] at H
              have HC86 := aS_ H
              clear H
              have hnb87 := NB399_397.out
              have hnc87 := NB397_399.out
              have hnb88 := NB399_398.out
              have hnc88 := NB398_399.out
              obtain ⟨hcz89_0, hcz89_1, hcz89_2, hfz89_0, hfz89_1, hfz89_2⟩ := c3_ BK399.out
              go_upto_if 86 with (fail)
              go_cut [] (fun wc => ∃ (kq : Nat) (x399004_85 : Bool) (x400001_85 : Int), Aside0 (sr28Read.j6 kq a0 t403 x399001_1 t423 t429 x399004_85 t426 x400001_85 x400002_80 = some (r1, r2, r3, r4, r5, r6, r7)) ∧ Aside0 (kq ≤ kj80) ∧ Aside0 (Kd.R k49 49 wc w.heap.size (fun _ => True) u399001 x399001_1) ∧ Aside0 (Kd.S k38 38 wc w.heap.size (fun k_ => some k_ ≠ ((.slice Ao56 t429.length co56) : Value).ownBlock) (.slice Ao51 t423.length co51) t423) ∧ Aside0 (Kd.S k38 38 wc w.heap.size (fun k_ => some k_ ≠ ((.slice Ao51 t423.length co51) : Value).ownBlock) (.slice Ao56 t429.length co56) t429) ∧ Aside0 (wc.heap[gb397]? = some (.cells #[.string (⟨#[]⟩ : ByteArray), (.slice none 0 0), (.slice none 0 0), (.slice none 0 0), .bool false, (.slice none 0 0)] 26 (0, 0))) ∧ Aside0 (wc.heap[gb398]? = some (.cells #[.string t403, u399001, (.slice Ao51 t423.length co51), (.slice Ao56 t429.length co56), .bool x399004_85, (.slice none 0 0)] 26 (0, 0))) ∧ Aside0 (wc.heap[gb399]? = some (.cells #[.string t426, .int .i64 x400001_85, .int .i64 x400002_80] 64 (0, 0))) ∧ Aside0 (Below w.heap.size w wc))
              case first =>
               have H := HC86.out
               clear HC86
               by_cases c90 : x400002_80 = 0
               ·rw [if_pos c90] at H
                have c90b0 := beq_iff_eq.mpr c90
                have c90b1 := bne_eq_false_iff_eq.mpr c90
                clear c90
                (first | rw [c90b0] | (simp only [i64_w, i32_w]; rw [c90b0]) | skip)
                by_cases c91 : 0 ≤ t427
                ·rw [if_pos c91] at H
                 have c91b0 := decide_eq_true c91
                 clear c91
                 by_cases c92 : t427 < (a0.size : Int)
                 ·rw [if_pos c92] at H
                  have c92b0 := decide_eq_true c92
                  clear c92
                  have H' := aS_ H
                  clear H
                  have hnb94 := NB399_397.out
                  have hnc94 := NB397_399.out
                  have hnb95 := NB399_398.out
                  have hnc95 := NB398_399.out
                  obtain ⟨hcz96_0, hcz96_1, hcz96_2, hfz96_0, hfz96_1, hfz96_2⟩ := c3_ BK399.out
                  have p93 : 0 ≤ (t427 : Int) := of_decide_eq_true (by first | (with_reducible assumption) | assumption)
                  have q93 : t427 < (a0.size : Int) := of_decide_eq_true (by first | (with_reducible assumption) | assumption)
                  have hx93 := bt_at a0 t427
                  replace p93 := eq_true p93
                  replace q93 := eq_true q93
                  have hnb97 := NB398_397.out
                  have hnc97 := NB397_398.out
                  obtain ⟨hcz98_0, hcz98_1, hcz98_2, hcz98_3, hcz98_4, hcz98_5, hfz98_0, hfz98_1, hfz98_2, hfz98_3, hfz98_4, hfz98_5⟩ := c6_ BK398.out
                  go_wp2
                  go_meet
                  case rel => exact ⟨_, (((bt a0 t427) == 1)), (wrap64 (t427 + 1)), H', ⟨by have := HK1.out; have := HJ15.out; have := HJ44.out; have := HJ64.out; have := HJ69.out; have := HJ80.out; first | omega | exact Nat.le_refl _⟩, ⟨by (with_reducible repeat (first | apply Kd.R_alloc | apply Kd.R_drewN | apply Kd.R_drew)); exact Kd.R_mono (Kd.R_far (p := ⟨gb399, 1, none⟩) (Kd.R_far (p := ⟨gb398, 4, none⟩) (Kd.R_types (Kd.R_types HO_399001.out BK398.out (by decide)) BK399.out (by decide)) (fun _ hk => hk.1.2) (.bool ((bt a0 t427) == 1))) (fun _ hk => hk.2) (.int .i64 (wrap64 (t427 + 1)))) (fun _ hk => trivial)⟩, ⟨by (with_reducible repeat (first | apply Kd.S_alloc | apply Kd.S_drewN | apply Kd.S_drew)); exact Kd.S_mono (Kd.S_far (p := ⟨gb399, 1, none⟩) (Kd.S_far (p := ⟨gb398, 4, none⟩) (Kd.S_types (Kd.S_types HO_399002.out BK398.out (by decide)) BK399.out (by decide)) (fun _ hk => hk.1.2) (.bool ((bt a0 t427) == 1))) (fun _ hk => hk.2) (.int .i64 (wrap64 (t427 + 1)))) (fun _ hk => hk.1.1)⟩, ⟨by (with_reducible repeat (first | apply Kd.S_alloc | apply Kd.S_drewN | apply Kd.S_drew)); exact Kd.S_mono (Kd.S_far (p := ⟨gb399, 1, none⟩) (Kd.S_far (p := ⟨gb398, 4, none⟩) (Kd.S_types (Kd.S_types HO_399003.out BK398.out (by decide)) BK399.out (by decide)) (fun _ hk => hk.1.2) (.bool ((bt a0 t427) == 1))) (fun _ hk => hk.2) (.int .i64 (wrap64 (t427 + 1)))) (fun _ hk => hk.1.1)⟩, ⟨bq BK397.out⟩, ⟨bp BK398.out⟩, ⟨bp BK399.out⟩, ⟨wk HB.out⟩⟩
                 ·rw [if_neg c92] at H
                  exact absurd H (by simp)
                ·rw [if_neg c91] at H
                 exact absurd H (by simp)
               ·rw [if_neg c90] at H
                have c90b0 := beq_eq_false_iff_ne.mpr c90
                have c90b1 := bne_iff_ne.mpr c90
                (first | rw [c90b0] | (simp only [i64_w, i32_w]; rw [c90b0]) | skip)
                have H' := aS_ H
                clear H
                go_wp2
                go_meet
                case rel => exact ⟨_, (false), (t427), H', ⟨by have := HK1.out; have := HJ15.out; have := HJ44.out; have := HJ64.out; have := HJ69.out; have := HJ80.out; first | omega | exact Nat.le_refl _⟩, ⟨rk HO_399001.out⟩, ⟨sk HO_399002.out⟩, ⟨sk HO_399003.out⟩, ⟨bq BK397.out⟩, ⟨bq BK398.out⟩, ⟨bq BK399.out⟩, ⟨wk HB.out⟩⟩
              case rest =>
               clear HC86
               try clear c1
               try clear c2
               try clear p2
               try clear c3
               try clear c4
               try clear c5
               try clear c6
               try clear p6
               try clear c7
               try clear p7
               try clear q7
               try clear hx7
               try clear c8
               try clear c9
               try clear p9
               try clear q9
               try clear hx9
               try clear c11
               try clear c12
               try clear c17
               try clear c17b0
               try clear c18
               try clear c19
               try clear c21
               try clear c24
               try clear c26
               try clear c27
               try clear c28
               try clear c29
               try clear c30
               try clear c31
               try clear c32
               try clear c33
               try clear c38
               try clear c46
               try clear c47
               try clear c52
               try clear c58
               try clear c58b0
               try clear c58b1
               try clear c59
               try clear c60
               try clear c62
               try clear c63
               try clear p64
               try clear c66
               try clear c67
               try clear c68
               try clear c71
               try clear c71b0
               try clear c71b1
               try clear c72
               try clear c72b0
               try clear c73
               try clear c73b0
               try clear p74
               try clear q74
               try clear hx74
               try clear c75
               try clear c76
               try clear c78
               try clear c79
               try clear c82
               try clear c83
               try clear c84
               try clear c87
               try clear c88
               try clear c90
               try clear c90b0
               try clear c90b1
               try clear c91
               try clear c91b0
               try clear c92
               try clear c92b0
               try clear p93
               try clear q93
               try clear hx93
               try clear c94
               try clear c95
               try clear c97
               try clear hcz11_0 hcz11_1 hcz11_2 hcz13_0 hcz13_1 hcz13_2 hcz13_3 hcz13_4 hcz13_5 hcz15_0 hcz15_1 hcz15_2 hcz20_0 hcz20_1 hcz20_2 hcz29_0 hcz29_1 hcz29_2 hcz31_0 hcz31_1 hcz31_2 hcz34_0 hcz34_1 hcz36_0 hcz36_1 hcz36_2 hcz37_0 hcz37_1 hcz39_0 hcz39_1 hcz39_2 hcz39_3 hcz39_4 hcz39_5 hcz42_0 hcz42_1 hcz42_2 hcz42_3 hcz42_4 hcz42_5 hcz48_0 hcz48_1 hcz48_2 hcz50_0 hcz50_1 hcz50_2 hcz53_0 hcz53_1 hcz53_2 hcz53_3 hcz53_4 hcz53_5 hcz55_0 hcz55_1 hcz55_2 hcz57_0 hcz57_1 hcz57_2 hcz57_3 hcz57_4 hcz57_5 hcz61_0 hcz61_1 hcz61_2 hcz64_0 hcz64_1 hcz64_2 hcz69_0 hcz69_1 hcz69_2 hcz77_0 hcz77_1 hcz77_2 hcz80_0 hcz80_1 hcz80_2 hcz85_0 hcz85_1 hcz85_2 hcz89_0 hcz89_1 hcz89_2 hcz96_0 hcz96_1 hcz96_2 hcz98_0 hcz98_1 hcz98_2 hcz98_3 hcz98_4 hcz98_5 hcz9_0 hcz9_1 hcz9_2 hfz11_0 hfz11_1 hfz11_2 hfz13_0 hfz13_1 hfz13_2 hfz13_3 hfz13_4 hfz13_5 hfz15_0 hfz15_1 hfz15_2 hfz20_0 hfz20_1 hfz20_2 hfz29_0 hfz29_1 hfz29_2 hfz31_0 hfz31_1 hfz31_2 hfz34_0 hfz34_1 hfz36_0 hfz36_1 hfz36_2 hfz37_0 hfz37_1 hfz39_0 hfz39_1 hfz39_2 hfz39_3 hfz39_4 hfz39_5 hfz42_0 hfz42_1 hfz42_2 hfz42_3 hfz42_4 hfz42_5 hfz48_0 hfz48_1 hfz48_2 hfz50_0 hfz50_1 hfz50_2 hfz53_0 hfz53_1 hfz53_2 hfz53_3 hfz53_4 hfz53_5 hfz55_0 hfz55_1 hfz55_2 hfz57_0 hfz57_1 hfz57_2 hfz57_3 hfz57_4 hfz57_5 hfz61_0 hfz61_1 hfz61_2 hfz64_0 hfz64_1 hfz64_2 hfz69_0 hfz69_1 hfz69_2 hfz77_0 hfz77_1 hfz77_2 hfz80_0 hfz80_1 hfz80_2 hfz85_0 hfz85_1 hfz85_2 hfz89_0 hfz89_1 hfz89_2 hfz96_0 hfz96_1 hfz96_2 hfz98_0 hfz98_1 hfz98_2 hfz98_3 hfz98_4 hfz98_5 hfz9_0 hfz9_1 hfz9_2
               try clear p2
               try clear p6
               try clear p64
               try clear p7
               try clear p74
               try clear p93
               try clear q7
               try clear q74
               try clear q93
               obtain ⟨kq, x399004_85, x400001_85, HA, HJ85, HO_399001, HO_399002, HO_399003, BK397, BK398, BK399, HB⟩ := hcut
               cases kq with
               | zero => exact absurd HA.out (by simp [sr28Read.j6])
               | succ kj85 =>
                have H := HA.out
                clear HA
                simp only [sr28Read.j6] at H
                replace H := Option.bind_eq_some_iff.mp H
                obtain ⟨⟨t432, t433, t434, t435⟩, A990, H⟩ := H
                try dsimp only at H
                have A99 := aS_ A990
                clear A990
                by_cases c100 : t434 = 0
                ·rw [if_pos c100] at H
                 have c100b0 := beq_iff_eq.mpr c100
                 have c100b1 := bne_eq_false_iff_eq.mpr c100
                 clear c100
                 by_cases c101 : t433 < (a0.size : Int)
                 ·rw [if_pos c101] at H
                  have c101b0 := decide_eq_true c101
                  clear c101
                  simp only [Option.some.injEq, Prod.mk.injEq] at H
                  obtain ⟨rfl, rfl, rfl, rfl, rfl, rfl, rfl⟩ := H
                  have hnb102 := NB399_397.out
                  have hnc102 := NB397_399.out
                  have hnb103 := NB399_398.out
                  have hnc103 := NB398_399.out
                  obtain ⟨hcz104_0, hcz104_1, hcz104_2, hfz104_0, hfz104_1, hfz104_2⟩ := c3_ BK399.out
                  go_wp2_with (first | (refine cl_ (some 99) Try.func32 #[.agg #[.string t426, .int .i64 x400001_85, .int .i64 x400002_80]] ?_; (with_reducible refine (sr28list.calls kj85 t426 x400001_85 x400002_80 t432 t433 t434 t435 _ A99.out).mono ?_); rintro e w105 ⟨v436, rfl, ho0, hb⟩; refine ⟨_, rfl, ?_⟩; replace HO_399001 := rb_ HO_399001 hb; replace HO_399002 := aS_ (Kd.S_elder' (sk HO_399002.out) (Kd.R_base ho0) hb); replace HO_399003 := aS_ (Kd.S_elder' (sk HO_399003.out) (Kd.R_base ho0) hb); have HO437 := aS_ (Kd.R_lower ho0 (below_size (wk HB.out))); replace BK397 := bb_ BK397 hb; replace BK398 := bb_ BK398 hb; replace BK399 := bb_ BK399 hb; replace HB := bw_ HB hb; try clear hb; (try clear ho0); obtain ⟨hcz106_0, hcz106_1, hcz106_2, hfz106_0, hfz106_1, hfz106_2⟩ := c3_ BK399.out; obtain ⟨Ao107, co107, eo107⟩ := Kd.R_slice HO437.out; subst eo107; have hnb108 := NB398_397.out; have hnc108 := NB397_398.out; obtain ⟨hcz109_0, hcz109_1, hcz109_2, hcz109_3, hcz109_4, hcz109_5, hfz109_0, hfz109_1, hfz109_2, hfz109_3, hfz109_4, hfz109_5⟩ := c6_ BK398.out; obtain ⟨hcz110_0, hcz110_1, hcz110_2, hcz110_3, hcz110_4, hcz110_5, hfz110_0, hfz110_1, hfz110_2, hfz110_3, hfz110_4, hfz110_5⟩ := c6_ BK397.out))
                  refine bodyPost_ret (results_ct rfl _ _ gb397 26 #[.string (⟨#[]⟩ : ByteArray), .slice none 0 0, .slice none 0 0, .slice none 0 0, .bool false, .slice none 0 0] (0, 0) _ rfl (bp BK397.out) Try.underlying26 rfl (by kernel_rfl)) rfl ?_
                  exact ⟨_, _, _, _, t1, by first | exact Kd.R_nil _ _ _ _ _ | exact Kd.N_nil _ _ _ _ _ | exact Kd.V_nil _ _ _ _ _ | exact Kd.Q_nil _ _ _ _ _ | exact Kd.S_nil _ _ _ _ _, by first | exact Kd.S_nil _ _ _ _ _ | exact Kd.N_nil _ _ _ _ _ | exact Kd.V_nil _ _ _ _ _ | exact Kd.Q_nil _ _ _ _ _ | exact Kd.R_nil _ _ _ _ _, by first | exact Kd.S_nil _ _ _ _ _ | exact Kd.N_nil _ _ _ _ _ | exact Kd.V_nil _ _ _ _ _ | exact Kd.Q_nil _ _ _ _ _ | exact Kd.R_nil _ _ _ _ _, by first | exact Kd.R_nil _ _ _ _ _ | exact Kd.N_nil _ _ _ _ _ | exact Kd.V_nil _ _ _ _ _ | exact Kd.Q_nil _ _ _ _ _ | exact Kd.S_nil _ _ _ _ _, wk HB.out⟩
                 ·rw [if_neg c101] at H
                  have c101b0 := decide_eq_false c101
                  clear c101
                  replace H := Option.bind_eq_some_iff.mp H
                  obtain ⟨t438, A1110, H⟩ := H
                  try dsimp only at H
                  have A111 := aS_ A1110
                  clear A1110
                  by_cases c112 : t438 = true
                  ·subst c112
                   rw [if_pos rfl] at H
                   simp only [Option.some.injEq, Prod.mk.injEq] at H
                   obtain ⟨rfl, rfl, rfl, rfl, rfl, rfl, rfl⟩ := H
                   have hnb113 := NB399_397.out
                   have hnc113 := NB397_399.out
                   have hnb114 := NB399_398.out
                   have hnc114 := NB398_399.out
                   obtain ⟨hcz115_0, hcz115_1, hcz115_2, hfz115_0, hfz115_1, hfz115_2⟩ := c3_ BK399.out
                   go_wp2_with (first | (refine cl_ (some 99) Try.func32 #[.agg #[.string t426, .int .i64 x400001_85, .int .i64 x400002_80]] ?_; (with_reducible refine (sr28list.calls kj85 t426 x400001_85 x400002_80 t432 t433 t434 t435 _ A99.out).mono ?_); rintro e w116 ⟨v436, rfl, ho0, hb⟩; refine ⟨_, rfl, ?_⟩; replace HO_399001 := rb_ HO_399001 hb; replace HO_399002 := aS_ (Kd.S_elder' (sk HO_399002.out) (Kd.R_base ho0) hb); replace HO_399003 := aS_ (Kd.S_elder' (sk HO_399003.out) (Kd.R_base ho0) hb); have HO437 := aS_ (Kd.R_lower ho0 (below_size (wk HB.out))); replace BK397 := bb_ BK397 hb; replace BK398 := bb_ BK398 hb; replace BK399 := bb_ BK399 hb; replace HB := bw_ HB hb; try clear hb; (try clear ho0); obtain ⟨hcz117_0, hcz117_1, hcz117_2, hfz117_0, hfz117_1, hfz117_2⟩ := c3_ BK399.out) | ((with_reducible refine gate_store (t := 64) (p := 5) rfl ?_); refine store_event (t := 64) (p := 5) (v := ?vo_w118) (w1 := (((w116.setCell ⟨gb399, 0, none⟩ (.string t432)).setCell ⟨gb399, 1, none⟩ (.int .i64 t433)).setCell ⟨gb399, 2, none⟩ (.int .i64 t434))) ?hg ?ho ?hn ?hr ?_; (case ho => rfl); (case hg => rfl); (case hn => rfl); (case hr => first | (go_simp; done) | (go_simp; rfl)); intro w118 hw; have n0_ : Aside0 (Kd.R k49 49 w118 w.heap.size (fun _ => True) u399001 x399001_1) := ⟨(by rw [hw]; exact (by (with_reducible repeat (first | apply Kd.R_alloc | apply Kd.R_drewN | apply Kd.R_drew)); exact Kd.R_mono (Kd.R_far (p := ⟨gb399, 2, none⟩) (Kd.R_far (p := ⟨gb399, 1, none⟩) (Kd.R_far (p := ⟨gb399, 0, none⟩) (Kd.R_types HO_399001.out BK399.out (by decide)) (fun _ hk => hk.2) (.string t432)) (fun _ hk => hk.2) (.int .i64 t433)) (fun _ hk => hk.2) (.int .i64 t434)) (fun _ hk => trivial)))⟩; have n1_ : Aside0 (Kd.S k38 38 w118 w.heap.size (fun k_ => some k_ ≠ (.slice Ao56 t429.length co56 : Value).ownBlock ∧ some k_ ≠ (v436 : Value).ownBlock) (.slice Ao51 t423.length co51) t423) := ⟨(by rw [hw]; exact (by (with_reducible repeat (first | apply Kd.S_alloc | apply Kd.S_drewN | apply Kd.S_drew)); exact Kd.S_mono (Kd.S_far (p := ⟨gb399, 2, none⟩) (Kd.S_far (p := ⟨gb399, 1, none⟩) (Kd.S_far (p := ⟨gb399, 0, none⟩) (Kd.S_types HO_399002.out BK399.out (by decide)) (fun _ hk => hk.2) (.string t432)) (fun _ hk => hk.2) (.int .i64 t433)) (fun _ hk => hk.2) (.int .i64 t434)) (fun _ hk => ⟨hk.1.1, hk.1.2⟩)))⟩; have n2_ : Aside0 (Kd.S k38 38 w118 w.heap.size (fun k_ => some k_ ≠ (.slice Ao51 t423.length co51 : Value).ownBlock ∧ some k_ ≠ (v436 : Value).ownBlock) (.slice Ao56 t429.length co56) t429) := ⟨(by rw [hw]; exact (by (with_reducible repeat (first | apply Kd.S_alloc | apply Kd.S_drewN | apply Kd.S_drew)); exact Kd.S_mono (Kd.S_far (p := ⟨gb399, 2, none⟩) (Kd.S_far (p := ⟨gb399, 1, none⟩) (Kd.S_far (p := ⟨gb399, 0, none⟩) (Kd.S_types HO_399003.out BK399.out (by decide)) (fun _ hk => hk.2) (.string t432)) (fun _ hk => hk.2) (.int .i64 t433)) (fun _ hk => hk.2) (.int .i64 t434)) (fun _ hk => ⟨hk.1.1, hk.1.2⟩)))⟩; have n3_ : Aside0 (Kd.R k88 88 w118 w.heap.size (fun _ => True) v436 t435) := ⟨(by rw [hw]; exact (by (with_reducible repeat (first | apply Kd.R_alloc | apply Kd.R_drewN | apply Kd.R_drew)); exact Kd.R_mono (Kd.R_far (p := ⟨gb399, 2, none⟩) (Kd.R_far (p := ⟨gb399, 1, none⟩) (Kd.R_far (p := ⟨gb399, 0, none⟩) (Kd.R_types HO437.out BK399.out (by decide)) (fun _ hk => hk.2) (.string t432)) (fun _ hk => hk.2) (.int .i64 t433)) (fun _ hk => hk.2) (.int .i64 t434)) (fun _ hk => trivial)))⟩; have n4_ : Aside0 (w118.heap[gb397]? = some (.cells #[.string (⟨#[]⟩ : ByteArray), .slice none 0 0, .slice none 0 0, .slice none 0 0, .bool false, .slice none 0 0] 26 (0, 0))) := ⟨(by rw [hw]; exact (bq BK397.out))⟩; have n5_ : Aside0 (w118.heap[gb398]? = some (.cells #[.string t403, u399001, .slice Ao51 t423.length co51, .slice Ao56 t429.length co56, .bool x399004_85, .slice none 0 0] 26 (0, 0))) := ⟨(by rw [hw]; exact (bq BK398.out))⟩; have n6_ : Aside0 (w118.heap[gb399]? = some (.cells #[.string t432, .int .i64 t433, .int .i64 t434] 64 (0, 0))) := ⟨(by rw [hw]; exact (bp BK399.out))⟩; have n7_ : Aside0 (Below w.heap.size w w118) := ⟨(by rw [hw]; exact (wk HB.out))⟩; clear hw; clear HO_399001; clear HO_399002; clear HO_399003; clear HO437; clear BK397; clear BK398; clear BK399; clear HB; have HO_399001 := n0_; have HO_399002 := n1_; have HO_399003 := n2_; have HO437 := n3_; have BK397 := n4_; have BK398 := n5_; have BK399 := n6_; have HB := n7_; clear n0_ n1_ n2_ n3_ n4_ n5_ n6_ n7_; obtain ⟨Ao119, co119, eo119⟩ := Kd.R_slice HO437.out; subst eo119; have hnb120 := NB398_397.out; have hnc120 := NB397_398.out; obtain ⟨hcz121_0, hcz121_1, hcz121_2, hcz121_3, hcz121_4, hcz121_5, hfz121_0, hfz121_1, hfz121_2, hfz121_3, hfz121_4, hfz121_5⟩ := c6_ BK398.out) | ((with_reducible refine gate_store (t := 24) (p := 102) rfl ?_); refine store_event (t := 24) (p := 102) (v := ?vo_w122) (w1 := (w118.setCell ⟨gb398, 5, none⟩ (.slice Ao119 t435.length co119))) ?hg ?ho ?hn ?hr ?_; (case ho => rfl); (case hg => rfl); (case hn => rfl); (case hr => first | (go_simp; done) | (go_simp; rfl)); intro w122 hw; have n0_ : Aside0 (Kd.R k49 49 w122 w.heap.size (fun _ => True) u399001 x399001_1) := ⟨(by rw [hw]; exact (by (with_reducible repeat (first | apply Kd.R_alloc | apply Kd.R_drewN | apply Kd.R_drew)); exact Kd.R_mono (Kd.R_far (p := ⟨gb398, 5, none⟩) (Kd.R_types HO_399001.out BK398.out (by decide)) (fun _ hk => hk.2) (.slice Ao119 t435.length co119)) (fun _ hk => trivial)))⟩; have n1_ : Aside0 (Kd.S k38 38 w122 w.heap.size (fun k_ => some k_ ≠ (.slice Ao56 t429.length co56 : Value).ownBlock ∧ some k_ ≠ (.slice Ao119 t435.length co119 : Value).ownBlock) (.slice Ao51 t423.length co51) t423) := ⟨(by rw [hw]; exact (by (with_reducible repeat (first | apply Kd.S_alloc | apply Kd.S_drewN | apply Kd.S_drew)); exact Kd.S_mono (Kd.S_far (p := ⟨gb398, 5, none⟩) (Kd.S_types HO_399002.out BK398.out (by decide)) (fun _ hk => hk.2) (.slice Ao119 t435.length co119)) (fun _ hk => ⟨hk.1.1, hk.1.2⟩)))⟩; have n2_ : Aside0 (Kd.S k38 38 w122 w.heap.size (fun k_ => some k_ ≠ (.slice Ao51 t423.length co51 : Value).ownBlock ∧ some k_ ≠ (.slice Ao119 t435.length co119 : Value).ownBlock) (.slice Ao56 t429.length co56) t429) := ⟨(by rw [hw]; exact (by (with_reducible repeat (first | apply Kd.S_alloc | apply Kd.S_drewN | apply Kd.S_drew)); exact Kd.S_mono (Kd.S_far (p := ⟨gb398, 5, none⟩) (Kd.S_types HO_399003.out BK398.out (by decide)) (fun _ hk => hk.2) (.slice Ao119 t435.length co119)) (fun _ hk => ⟨hk.1.1, hk.1.2⟩)))⟩; have n3_ : Aside0 (Kd.R k88 88 w122 w.heap.size (fun _ => True) (.slice Ao119 t435.length co119) t435) := ⟨(by rw [hw]; exact (by (with_reducible repeat (first | apply Kd.R_alloc | apply Kd.R_drewN | apply Kd.R_drew)); exact Kd.R_mono (Kd.R_far (p := ⟨gb398, 5, none⟩) (Kd.R_types HO437.out BK398.out (by decide)) (fun _ hk => hk.2) (.slice Ao119 t435.length co119)) (fun _ hk => trivial)))⟩; have n4_ : Aside0 (w122.heap[gb397]? = some (.cells #[.string (⟨#[]⟩ : ByteArray), .slice none 0 0, .slice none 0 0, .slice none 0 0, .bool false, .slice none 0 0] 26 (0, 0))) := ⟨(by rw [hw]; exact (bq BK397.out))⟩; have n5_ : Aside0 (w122.heap[gb398]? = some (.cells #[.string t403, u399001, .slice Ao51 t423.length co51, .slice Ao56 t429.length co56, .bool x399004_85, .slice Ao119 t435.length co119] 26 (0, 0))) := ⟨(by rw [hw]; exact (bp BK398.out))⟩; have n6_ : Aside0 (w122.heap[gb399]? = some (.cells #[.string t432, .int .i64 t433, .int .i64 t434] 64 (0, 0))) := ⟨(by rw [hw]; exact (bq BK399.out))⟩; have n7_ : Aside0 (Below w.heap.size w w122) := ⟨(by rw [hw]; exact (wk HB.out))⟩; clear hw; clear HO_399001; clear HO_399002; clear HO_399003; clear HO437; clear BK397; clear BK398; clear BK399; clear HB; have HO_399001 := n0_; have HO_399002 := n1_; have HO_399003 := n2_; have HO437 := n3_; have BK397 := n4_; have BK398 := n5_; have BK399 := n6_; have HB := n7_; clear n0_ n1_ n2_ n3_ n4_ n5_ n6_ n7_; obtain ⟨hcz123_0, hcz123_1, hcz123_2, hfz123_0, hfz123_1, hfz123_2⟩ := c3_ BK399.out; obtain ⟨hcz124_0, hcz124_1, hcz124_2, hcz124_3, hcz124_4, hcz124_5, hfz124_0, hfz124_1, hfz124_2, hfz124_3, hfz124_4, hfz124_5⟩ := c6_ BK398.out; obtain ⟨Ao125, co125, eo125⟩ := Kd.R_slice HO_399001.out; subst eo125) | (refine cl_ (some 116) Try.func21 #[.agg #[.string t403, .slice Ao125 x399001_1.length co125, .slice Ao51 t423.length co51, .slice Ao56 t429.length co56, .bool x399004_85, .slice Ao119 t435.length co119]] ?_; (with_reducible refine (sr25Right.calls kj85 t403 _ _ x399001_1 _ _ t423 _ _ t429 x399004_85 (fun k_ => some k_ = (.slice Ao119 t435.length co119 : Value).ownBlock) _ _ t435 true _ ?side1 ?side2 ?side3 ?side4 ?side5 ?side6 ?side7 A111.out).mono ?_); (case side1 => repeat (first | exact (Kd.R_reads' HO_399001.out).2.2 | (with_reducible refine Kd.C_alloc ?_ _) | (with_reducible refine Kd.C_drewN ?_ _) | (with_reducible refine Kd.C_drew ?_))); (case side2 => exact (Kd.R_reads' HO_399001.out).2.1); (case side3 => repeat (first | exact (Kd.S_reads' HO_399002.out).2.2 | (with_reducible refine Kd.C_alloc ?_ _) | (with_reducible refine Kd.C_drewN ?_ _) | (with_reducible refine Kd.C_drew ?_))); (case side4 => exact (Kd.S_reads' HO_399002.out).2.1); (case side5 => repeat (first | exact (Kd.S_reads' HO_399003.out).2.2 | (with_reducible refine Kd.C_alloc ?_ _) | (with_reducible refine Kd.C_drewN ?_ _) | (with_reducible refine Kd.C_drew ?_))); (case side6 => exact (Kd.S_reads' HO_399003.out).2.1); (case side7 => exact Kd.R_V (Kd.R_tight rfl (Kd.R_types (Kd.R_types (Kd.R_types (Kd.R_apart' (Kd.R_apart' (Kd.R_apart' (HO437.out) (Kd.R_typed HO_399001.out) (by decide)) (Kd.S_typed HO_399002.out) (by decide)) (Kd.S_typed HO_399003.out) (by decide)) BK397.out (by decide)) BK398.out (by decide)) BK399.out (by decide)))); rintro e w126 ⟨rfl, hb⟩; refine ⟨_, rfl, ?_⟩; replace HO_399001 := rb_ HO_399001 hb; replace HO_399002 := sb_ HO_399002 hb; replace HO_399003 := sb_ HO_399003 hb; replace HO437 := rb_ HO437 hb; replace BK397 := bb_ BK397 hb; replace BK398 := bb_ BK398 hb; replace BK399 := bb_ BK399 hb; replace HB := bw_ HB hb; try clear hb; obtain ⟨hcz127_0, hcz127_1, hcz127_2, hcz127_3, hcz127_4, hcz127_5, hfz127_0, hfz127_1, hfz127_2, hfz127_3, hfz127_4, hfz127_5⟩ := c6_ BK398.out; obtain ⟨hcz128_0, hcz128_1, hcz128_2, hcz128_3, hcz128_4, hcz128_5, hfz128_0, hfz128_1, hfz128_2, hfz128_3, hfz128_4, hfz128_5⟩ := c6_ BK397.out))
                   refine bodyPost_ret (results_ct rfl _ _ gb397 26 #[.string t403, .slice Ao125 x399001_1.length co125, .slice Ao51 t423.length co51, .slice Ao56 t429.length co56, .bool x399004_85, .slice Ao119 t435.length co119] (0, 0) _ rfl (bp BK397.out) Try.underlying26 rfl (by kernel_rfl)) rfl ?_
                   exact ⟨_, _, _, _, t1, by (with_reducible repeat (first | apply Kd.R_alloc | apply Kd.R_drewN | apply Kd.R_drew)); exact Kd.R_mono (Kd.R_far (p := ⟨gb397, 5, none⟩) (Kd.R_far (p := ⟨gb397, 4, none⟩) (Kd.R_far (p := ⟨gb397, 3, none⟩) (Kd.R_far (p := ⟨gb397, 2, none⟩) (Kd.R_far (p := ⟨gb397, 1, none⟩) (Kd.R_far (p := ⟨gb397, 0, none⟩) (Kd.R_types HO_399001.out BK397.out (by decide)) (fun _ hk => hk.2) (.string t403)) (fun _ hk => hk.2) (.slice Ao125 x399001_1.length co125)) (fun _ hk => hk.2) (.slice Ao51 t423.length co51)) (fun _ hk => hk.2) (.slice Ao56 t429.length co56)) (fun _ hk => hk.2) (.bool x399004_85)) (fun _ hk => hk.2) (.slice Ao119 t435.length co119)) (fun _ hk => trivial), by (with_reducible repeat (first | apply Kd.S_alloc | apply Kd.S_drewN | apply Kd.S_drew)); exact Kd.S_mono (Kd.S_far (p := ⟨gb397, 5, none⟩) (Kd.S_far (p := ⟨gb397, 4, none⟩) (Kd.S_far (p := ⟨gb397, 3, none⟩) (Kd.S_far (p := ⟨gb397, 2, none⟩) (Kd.S_far (p := ⟨gb397, 1, none⟩) (Kd.S_far (p := ⟨gb397, 0, none⟩) (Kd.S_types HO_399002.out BK397.out (by decide)) (fun _ hk => hk.2) (.string t403)) (fun _ hk => hk.2) (.slice Ao125 x399001_1.length co125)) (fun _ hk => hk.2) (.slice Ao51 t423.length co51)) (fun _ hk => hk.2) (.slice Ao56 t429.length co56)) (fun _ hk => hk.2) (.bool x399004_85)) (fun _ hk => hk.2) (.slice Ao119 t435.length co119)) (fun _ hk => ⟨hk.1.1, hk.1.2⟩), by (with_reducible repeat (first | apply Kd.S_alloc | apply Kd.S_drewN | apply Kd.S_drew)); exact Kd.S_mono (Kd.S_far (p := ⟨gb397, 5, none⟩) (Kd.S_far (p := ⟨gb397, 4, none⟩) (Kd.S_far (p := ⟨gb397, 3, none⟩) (Kd.S_far (p := ⟨gb397, 2, none⟩) (Kd.S_far (p := ⟨gb397, 1, none⟩) (Kd.S_far (p := ⟨gb397, 0, none⟩) (Kd.S_types HO_399003.out BK397.out (by decide)) (fun _ hk => hk.2) (.string t403)) (fun _ hk => hk.2) (.slice Ao125 x399001_1.length co125)) (fun _ hk => hk.2) (.slice Ao51 t423.length co51)) (fun _ hk => hk.2) (.slice Ao56 t429.length co56)) (fun _ hk => hk.2) (.bool x399004_85)) (fun _ hk => hk.2) (.slice Ao119 t435.length co119)) (fun _ hk => ⟨hk.1.1, hk.1.2⟩), by (with_reducible repeat (first | apply Kd.R_alloc | apply Kd.R_drewN | apply Kd.R_drew)); exact Kd.R_mono (Kd.R_far (p := ⟨gb397, 5, none⟩) (Kd.R_far (p := ⟨gb397, 4, none⟩) (Kd.R_far (p := ⟨gb397, 3, none⟩) (Kd.R_far (p := ⟨gb397, 2, none⟩) (Kd.R_far (p := ⟨gb397, 1, none⟩) (Kd.R_far (p := ⟨gb397, 0, none⟩) (Kd.R_types HO437.out BK397.out (by decide)) (fun _ hk => hk.2) (.string t403)) (fun _ hk => hk.2) (.slice Ao125 x399001_1.length co125)) (fun _ hk => hk.2) (.slice Ao51 t423.length co51)) (fun _ hk => hk.2) (.slice Ao56 t429.length co56)) (fun _ hk => hk.2) (.bool x399004_85)) (fun _ hk => hk.2) (.slice Ao119 t435.length co119)) (fun _ hk => trivial), wk HB.out⟩
                  ·replace c112 := Bool.eq_false_iff.mpr c112
                   subst c112
                   rw [if_neg Bool.false_ne_true] at H
                   simp only [Option.some.injEq, Prod.mk.injEq] at H
                   obtain ⟨rfl, rfl, rfl, rfl, rfl, rfl, rfl⟩ := H
                   have hnb129 := NB399_397.out
                   have hnc129 := NB397_399.out
                   have hnb130 := NB399_398.out
                   have hnc130 := NB398_399.out
                   obtain ⟨hcz131_0, hcz131_1, hcz131_2, hfz131_0, hfz131_1, hfz131_2⟩ := c3_ BK399.out
                   go_wp2_with (first | (refine cl_ (some 99) Try.func32 #[.agg #[.string t426, .int .i64 x400001_85, .int .i64 x400002_80]] ?_; (with_reducible refine (sr28list.calls kj85 t426 x400001_85 x400002_80 t432 t433 t434 t435 _ A99.out).mono ?_); rintro e w132 ⟨v436, rfl, ho0, hb⟩; refine ⟨_, rfl, ?_⟩; replace HO_399001 := rb_ HO_399001 hb; replace HO_399002 := aS_ (Kd.S_elder' (sk HO_399002.out) (Kd.R_base ho0) hb); replace HO_399003 := aS_ (Kd.S_elder' (sk HO_399003.out) (Kd.R_base ho0) hb); have HO437 := aS_ (Kd.R_lower ho0 (below_size (wk HB.out))); replace BK397 := bb_ BK397 hb; replace BK398 := bb_ BK398 hb; replace BK399 := bb_ BK399 hb; replace HB := bw_ HB hb; try clear hb; (try clear ho0); obtain ⟨hcz133_0, hcz133_1, hcz133_2, hfz133_0, hfz133_1, hfz133_2⟩ := c3_ BK399.out) | ((with_reducible refine gate_store (t := 64) (p := 5) rfl ?_); refine store_event (t := 64) (p := 5) (v := ?vo_w134) (w1 := (((w132.setCell ⟨gb399, 0, none⟩ (.string t432)).setCell ⟨gb399, 1, none⟩ (.int .i64 t433)).setCell ⟨gb399, 2, none⟩ (.int .i64 t434))) ?hg ?ho ?hn ?hr ?_; (case ho => rfl); (case hg => rfl); (case hn => rfl); (case hr => first | (go_simp; done) | (go_simp; rfl)); intro w134 hw; have n0_ : Aside0 (Kd.R k49 49 w134 w.heap.size (fun _ => True) u399001 x399001_1) := ⟨(by rw [hw]; exact (by (with_reducible repeat (first | apply Kd.R_alloc | apply Kd.R_drewN | apply Kd.R_drew)); exact Kd.R_mono (Kd.R_far (p := ⟨gb399, 2, none⟩) (Kd.R_far (p := ⟨gb399, 1, none⟩) (Kd.R_far (p := ⟨gb399, 0, none⟩) (Kd.R_types HO_399001.out BK399.out (by decide)) (fun _ hk => hk.2) (.string t432)) (fun _ hk => hk.2) (.int .i64 t433)) (fun _ hk => hk.2) (.int .i64 t434)) (fun _ hk => trivial)))⟩; have n1_ : Aside0 (Kd.S k38 38 w134 w.heap.size (fun k_ => some k_ ≠ (.slice Ao56 t429.length co56 : Value).ownBlock ∧ some k_ ≠ (v436 : Value).ownBlock) (.slice Ao51 t423.length co51) t423) := ⟨(by rw [hw]; exact (by (with_reducible repeat (first | apply Kd.S_alloc | apply Kd.S_drewN | apply Kd.S_drew)); exact Kd.S_mono (Kd.S_far (p := ⟨gb399, 2, none⟩) (Kd.S_far (p := ⟨gb399, 1, none⟩) (Kd.S_far (p := ⟨gb399, 0, none⟩) (Kd.S_types HO_399002.out BK399.out (by decide)) (fun _ hk => hk.2) (.string t432)) (fun _ hk => hk.2) (.int .i64 t433)) (fun _ hk => hk.2) (.int .i64 t434)) (fun _ hk => ⟨hk.1.1, hk.1.2⟩)))⟩; have n2_ : Aside0 (Kd.S k38 38 w134 w.heap.size (fun k_ => some k_ ≠ (.slice Ao51 t423.length co51 : Value).ownBlock ∧ some k_ ≠ (v436 : Value).ownBlock) (.slice Ao56 t429.length co56) t429) := ⟨(by rw [hw]; exact (by (with_reducible repeat (first | apply Kd.S_alloc | apply Kd.S_drewN | apply Kd.S_drew)); exact Kd.S_mono (Kd.S_far (p := ⟨gb399, 2, none⟩) (Kd.S_far (p := ⟨gb399, 1, none⟩) (Kd.S_far (p := ⟨gb399, 0, none⟩) (Kd.S_types HO_399003.out BK399.out (by decide)) (fun _ hk => hk.2) (.string t432)) (fun _ hk => hk.2) (.int .i64 t433)) (fun _ hk => hk.2) (.int .i64 t434)) (fun _ hk => ⟨hk.1.1, hk.1.2⟩)))⟩; have n3_ : Aside0 (Kd.R k88 88 w134 w.heap.size (fun _ => True) v436 t435) := ⟨(by rw [hw]; exact (by (with_reducible repeat (first | apply Kd.R_alloc | apply Kd.R_drewN | apply Kd.R_drew)); exact Kd.R_mono (Kd.R_far (p := ⟨gb399, 2, none⟩) (Kd.R_far (p := ⟨gb399, 1, none⟩) (Kd.R_far (p := ⟨gb399, 0, none⟩) (Kd.R_types HO437.out BK399.out (by decide)) (fun _ hk => hk.2) (.string t432)) (fun _ hk => hk.2) (.int .i64 t433)) (fun _ hk => hk.2) (.int .i64 t434)) (fun _ hk => trivial)))⟩; have n4_ : Aside0 (w134.heap[gb397]? = some (.cells #[.string (⟨#[]⟩ : ByteArray), .slice none 0 0, .slice none 0 0, .slice none 0 0, .bool false, .slice none 0 0] 26 (0, 0))) := ⟨(by rw [hw]; exact (bq BK397.out))⟩; have n5_ : Aside0 (w134.heap[gb398]? = some (.cells #[.string t403, u399001, .slice Ao51 t423.length co51, .slice Ao56 t429.length co56, .bool x399004_85, .slice none 0 0] 26 (0, 0))) := ⟨(by rw [hw]; exact (bq BK398.out))⟩; have n6_ : Aside0 (w134.heap[gb399]? = some (.cells #[.string t432, .int .i64 t433, .int .i64 t434] 64 (0, 0))) := ⟨(by rw [hw]; exact (bp BK399.out))⟩; have n7_ : Aside0 (Below w.heap.size w w134) := ⟨(by rw [hw]; exact (wk HB.out))⟩; clear hw; clear HO_399001; clear HO_399002; clear HO_399003; clear HO437; clear BK397; clear BK398; clear BK399; clear HB; have HO_399001 := n0_; have HO_399002 := n1_; have HO_399003 := n2_; have HO437 := n3_; have BK397 := n4_; have BK398 := n5_; have BK399 := n6_; have HB := n7_; clear n0_ n1_ n2_ n3_ n4_ n5_ n6_ n7_; obtain ⟨Ao135, co135, eo135⟩ := Kd.R_slice HO437.out; subst eo135; have hnb136 := NB398_397.out; have hnc136 := NB397_398.out; obtain ⟨hcz137_0, hcz137_1, hcz137_2, hcz137_3, hcz137_4, hcz137_5, hfz137_0, hfz137_1, hfz137_2, hfz137_3, hfz137_4, hfz137_5⟩ := c6_ BK398.out) | ((with_reducible refine gate_store (t := 24) (p := 102) rfl ?_); refine store_event (t := 24) (p := 102) (v := ?vo_w138) (w1 := (w134.setCell ⟨gb398, 5, none⟩ (.slice Ao135 t435.length co135))) ?hg ?ho ?hn ?hr ?_; (case ho => rfl); (case hg => rfl); (case hn => rfl); (case hr => first | (go_simp; done) | (go_simp; rfl)); intro w138 hw; have n0_ : Aside0 (Kd.R k49 49 w138 w.heap.size (fun _ => True) u399001 x399001_1) := ⟨(by rw [hw]; exact (by (with_reducible repeat (first | apply Kd.R_alloc | apply Kd.R_drewN | apply Kd.R_drew)); exact Kd.R_mono (Kd.R_far (p := ⟨gb398, 5, none⟩) (Kd.R_types HO_399001.out BK398.out (by decide)) (fun _ hk => hk.2) (.slice Ao135 t435.length co135)) (fun _ hk => trivial)))⟩; have n1_ : Aside0 (Kd.S k38 38 w138 w.heap.size (fun k_ => some k_ ≠ (.slice Ao56 t429.length co56 : Value).ownBlock ∧ some k_ ≠ (.slice Ao135 t435.length co135 : Value).ownBlock) (.slice Ao51 t423.length co51) t423) := ⟨(by rw [hw]; exact (by (with_reducible repeat (first | apply Kd.S_alloc | apply Kd.S_drewN | apply Kd.S_drew)); exact Kd.S_mono (Kd.S_far (p := ⟨gb398, 5, none⟩) (Kd.S_types HO_399002.out BK398.out (by decide)) (fun _ hk => hk.2) (.slice Ao135 t435.length co135)) (fun _ hk => ⟨hk.1.1, hk.1.2⟩)))⟩; have n2_ : Aside0 (Kd.S k38 38 w138 w.heap.size (fun k_ => some k_ ≠ (.slice Ao51 t423.length co51 : Value).ownBlock ∧ some k_ ≠ (.slice Ao135 t435.length co135 : Value).ownBlock) (.slice Ao56 t429.length co56) t429) := ⟨(by rw [hw]; exact (by (with_reducible repeat (first | apply Kd.S_alloc | apply Kd.S_drewN | apply Kd.S_drew)); exact Kd.S_mono (Kd.S_far (p := ⟨gb398, 5, none⟩) (Kd.S_types HO_399003.out BK398.out (by decide)) (fun _ hk => hk.2) (.slice Ao135 t435.length co135)) (fun _ hk => ⟨hk.1.1, hk.1.2⟩)))⟩; have n3_ : Aside0 (Kd.R k88 88 w138 w.heap.size (fun _ => True) (.slice Ao135 t435.length co135) t435) := ⟨(by rw [hw]; exact (by (with_reducible repeat (first | apply Kd.R_alloc | apply Kd.R_drewN | apply Kd.R_drew)); exact Kd.R_mono (Kd.R_far (p := ⟨gb398, 5, none⟩) (Kd.R_types HO437.out BK398.out (by decide)) (fun _ hk => hk.2) (.slice Ao135 t435.length co135)) (fun _ hk => trivial)))⟩; have n4_ : Aside0 (w138.heap[gb397]? = some (.cells #[.string (⟨#[]⟩ : ByteArray), .slice none 0 0, .slice none 0 0, .slice none 0 0, .bool false, .slice none 0 0] 26 (0, 0))) := ⟨(by rw [hw]; exact (bq BK397.out))⟩; have n5_ : Aside0 (w138.heap[gb398]? = some (.cells #[.string t403, u399001, .slice Ao51 t423.length co51, .slice Ao56 t429.length co56, .bool x399004_85, .slice Ao135 t435.length co135] 26 (0, 0))) := ⟨(by rw [hw]; exact (bp BK398.out))⟩; have n6_ : Aside0 (w138.heap[gb399]? = some (.cells #[.string t432, .int .i64 t433, .int .i64 t434] 64 (0, 0))) := ⟨(by rw [hw]; exact (bq BK399.out))⟩; have n7_ : Aside0 (Below w.heap.size w w138) := ⟨(by rw [hw]; exact (wk HB.out))⟩; clear hw; clear HO_399001; clear HO_399002; clear HO_399003; clear HO437; clear BK397; clear BK398; clear BK399; clear HB; have HO_399001 := n0_; have HO_399002 := n1_; have HO_399003 := n2_; have HO437 := n3_; have BK397 := n4_; have BK398 := n5_; have BK399 := n6_; have HB := n7_; clear n0_ n1_ n2_ n3_ n4_ n5_ n6_ n7_; obtain ⟨hcz139_0, hcz139_1, hcz139_2, hfz139_0, hfz139_1, hfz139_2⟩ := c3_ BK399.out; obtain ⟨hcz140_0, hcz140_1, hcz140_2, hcz140_3, hcz140_4, hcz140_5, hfz140_0, hfz140_1, hfz140_2, hfz140_3, hfz140_4, hfz140_5⟩ := c6_ BK398.out; obtain ⟨Ao141, co141, eo141⟩ := Kd.R_slice HO_399001.out; subst eo141) | (refine cl_ (some 116) Try.func21 #[.agg #[.string t403, .slice Ao141 x399001_1.length co141, .slice Ao51 t423.length co51, .slice Ao56 t429.length co56, .bool x399004_85, .slice Ao135 t435.length co135]] ?_; (with_reducible refine (sr25Right.calls kj85 t403 _ _ x399001_1 _ _ t423 _ _ t429 x399004_85 (fun k_ => some k_ = (.slice Ao135 t435.length co135 : Value).ownBlock) _ _ t435 false _ ?side1 ?side2 ?side3 ?side4 ?side5 ?side6 ?side7 A111.out).mono ?_); (case side1 => repeat (first | exact (Kd.R_reads' HO_399001.out).2.2 | (with_reducible refine Kd.C_alloc ?_ _) | (with_reducible refine Kd.C_drewN ?_ _) | (with_reducible refine Kd.C_drew ?_))); (case side2 => exact (Kd.R_reads' HO_399001.out).2.1); (case side3 => repeat (first | exact (Kd.S_reads' HO_399002.out).2.2 | (with_reducible refine Kd.C_alloc ?_ _) | (with_reducible refine Kd.C_drewN ?_ _) | (with_reducible refine Kd.C_drew ?_))); (case side4 => exact (Kd.S_reads' HO_399002.out).2.1); (case side5 => repeat (first | exact (Kd.S_reads' HO_399003.out).2.2 | (with_reducible refine Kd.C_alloc ?_ _) | (with_reducible refine Kd.C_drewN ?_ _) | (with_reducible refine Kd.C_drew ?_))); (case side6 => exact (Kd.S_reads' HO_399003.out).2.1); (case side7 => exact Kd.R_V (Kd.R_tight rfl (Kd.R_types (Kd.R_types (Kd.R_types (Kd.R_apart' (Kd.R_apart' (Kd.R_apart' (HO437.out) (Kd.R_typed HO_399001.out) (by decide)) (Kd.S_typed HO_399002.out) (by decide)) (Kd.S_typed HO_399003.out) (by decide)) BK397.out (by decide)) BK398.out (by decide)) BK399.out (by decide)))); rintro e w142 ⟨rfl, hb⟩; refine ⟨_, rfl, ?_⟩; replace HO_399001 := rb_ HO_399001 hb; replace HO_399002 := sb_ HO_399002 hb; replace HO_399003 := sb_ HO_399003 hb; replace HO437 := rb_ HO437 hb; replace BK397 := bb_ BK397 hb; replace BK398 := bb_ BK398 hb; replace BK399 := bb_ BK399 hb; replace HB := bw_ HB hb; try clear hb; obtain ⟨hcz143_0, hcz143_1, hcz143_2, hcz143_3, hcz143_4, hcz143_5, hfz143_0, hfz143_1, hfz143_2, hfz143_3, hfz143_4, hfz143_5⟩ := c6_ BK397.out))
                   refine bodyPost_ret (results_ct rfl _ _ gb397 26 #[.string (⟨#[]⟩ : ByteArray), .slice none 0 0, .slice none 0 0, .slice none 0 0, .bool false, .slice none 0 0] (0, 0) _ rfl (bp BK397.out) Try.underlying26 rfl (by kernel_rfl)) rfl ?_
                   exact ⟨_, _, _, _, t1, by first | exact Kd.R_nil _ _ _ _ _ | exact Kd.N_nil _ _ _ _ _ | exact Kd.V_nil _ _ _ _ _ | exact Kd.Q_nil _ _ _ _ _ | exact Kd.S_nil _ _ _ _ _, by first | exact Kd.S_nil _ _ _ _ _ | exact Kd.N_nil _ _ _ _ _ | exact Kd.V_nil _ _ _ _ _ | exact Kd.Q_nil _ _ _ _ _ | exact Kd.R_nil _ _ _ _ _, by first | exact Kd.S_nil _ _ _ _ _ | exact Kd.N_nil _ _ _ _ _ | exact Kd.V_nil _ _ _ _ _ | exact Kd.Q_nil _ _ _ _ _ | exact Kd.R_nil _ _ _ _ _, by first | exact Kd.R_nil _ _ _ _ _ | exact Kd.N_nil _ _ _ _ _ | exact Kd.V_nil _ _ _ _ _ | exact Kd.Q_nil _ _ _ _ _ | exact Kd.S_nil _ _ _ _ _, wk HB.out⟩
                ·rw [if_neg c100] at H
                 have c100b0 := beq_eq_false_iff_ne.mpr c100
                 have c100b1 := bne_iff_ne.mpr c100
                 simp only [Option.some.injEq, Prod.mk.injEq] at H
                 obtain ⟨rfl, rfl, rfl, rfl, rfl, rfl, rfl⟩ := H
                 have hnb144 := NB399_397.out
                 have hnc144 := NB397_399.out
                 have hnb145 := NB399_398.out
                 have hnc145 := NB398_399.out
                 obtain ⟨hcz146_0, hcz146_1, hcz146_2, hfz146_0, hfz146_1, hfz146_2⟩ := c3_ BK399.out
                 try go_wp2_with (first | (refine cl_ (some 99) Try.func32 #[.agg #[.string t426, .int .i64 x400001_85, .int .i64 x400002_80]] ?_; (with_reducible refine (sr28list.calls kj85 t426 x400001_85 x400002_80 t432 t433 t434 t435 _ A99.out).mono ?_); rintro e w147 ⟨v436, rfl, ho0, hb⟩; refine ⟨_, rfl, ?_⟩; replace HO_399001 := rb_ HO_399001 hb; replace HO_399002 := aS_ (Kd.S_elder' (sk HO_399002.out) (Kd.R_base ho0) hb); replace HO_399003 := aS_ (Kd.S_elder' (sk HO_399003.out) (Kd.R_base ho0) hb); have HO437 := aS_ (Kd.R_lower ho0 (below_size (wk HB.out))); replace BK397 := bb_ BK397 hb; replace BK398 := bb_ BK398 hb; replace BK399 := bb_ BK399 hb; replace HB := bw_ HB hb; try clear hb; (try clear ho0); obtain ⟨hcz148_0, hcz148_1, hcz148_2, hfz148_0, hfz148_1, hfz148_2⟩ := c3_ BK399.out; obtain ⟨Ao149, co149, eo149⟩ := Kd.R_slice HO437.out; subst eo149; have hnb150 := NB398_397.out; have hnc150 := NB397_398.out; obtain ⟨hcz151_0, hcz151_1, hcz151_2, hcz151_3, hcz151_4, hcz151_5, hfz151_0, hfz151_1, hfz151_2, hfz151_3, hfz151_4, hfz151_5⟩ := c6_ BK398.out))
                 have n0_ : Aside0 (Kd.R k49 49 ((((w147.setCell ⟨gb399, 0, none⟩ (.string t432)).setCell ⟨gb399, 1, none⟩ (.int .i64 t433)).setCell ⟨gb399, 2, none⟩ (.int .i64 t434)).setCell ⟨gb398, 5, none⟩ (.slice Ao149 t435.length co149)) w.heap.size (fun _ => True) u399001 x399001_1) := ⟨by (with_reducible repeat (first | apply Kd.R_alloc | apply Kd.R_drewN | apply Kd.R_drew)); exact Kd.R_mono (Kd.R_far (p := ⟨gb398, 5, none⟩) (Kd.R_far (p := ⟨gb399, 2, none⟩) (Kd.R_far (p := ⟨gb399, 1, none⟩) (Kd.R_far (p := ⟨gb399, 0, none⟩) (Kd.R_types (Kd.R_types HO_399001.out BK399.out (by decide)) BK398.out (by decide)) (fun _ hk => hk.1.2) (.string t432)) (fun _ hk => hk.1.2) (.int .i64 t433)) (fun _ hk => hk.1.2) (.int .i64 t434)) (fun _ hk => hk.2) (.slice Ao149 t435.length co149)) (fun _ hk => trivial)⟩
                 have n1_ : Aside0 (Kd.S k38 38 ((((w147.setCell ⟨gb399, 0, none⟩ (.string t432)).setCell ⟨gb399, 1, none⟩ (.int .i64 t433)).setCell ⟨gb399, 2, none⟩ (.int .i64 t434)).setCell ⟨gb398, 5, none⟩ (.slice Ao149 t435.length co149)) w.heap.size (fun k_ => some k_ ≠ (.slice Ao56 t429.length co56 : Value).ownBlock ∧ some k_ ≠ (.slice Ao149 t435.length co149 : Value).ownBlock) (.slice Ao51 t423.length co51) t423) := ⟨by (with_reducible repeat (first | apply Kd.S_alloc | apply Kd.S_drewN | apply Kd.S_drew)); exact Kd.S_mono (Kd.S_far (p := ⟨gb398, 5, none⟩) (Kd.S_far (p := ⟨gb399, 2, none⟩) (Kd.S_far (p := ⟨gb399, 1, none⟩) (Kd.S_far (p := ⟨gb399, 0, none⟩) (Kd.S_types (Kd.S_types HO_399002.out BK399.out (by decide)) BK398.out (by decide)) (fun _ hk => hk.1.2) (.string t432)) (fun _ hk => hk.1.2) (.int .i64 t433)) (fun _ hk => hk.1.2) (.int .i64 t434)) (fun _ hk => hk.2) (.slice Ao149 t435.length co149)) (fun _ hk => ⟨hk.1.1.1, hk.1.1.2⟩)⟩
                 have n2_ : Aside0 (Kd.S k38 38 ((((w147.setCell ⟨gb399, 0, none⟩ (.string t432)).setCell ⟨gb399, 1, none⟩ (.int .i64 t433)).setCell ⟨gb399, 2, none⟩ (.int .i64 t434)).setCell ⟨gb398, 5, none⟩ (.slice Ao149 t435.length co149)) w.heap.size (fun k_ => some k_ ≠ (.slice Ao51 t423.length co51 : Value).ownBlock ∧ some k_ ≠ (.slice Ao149 t435.length co149 : Value).ownBlock) (.slice Ao56 t429.length co56) t429) := ⟨by (with_reducible repeat (first | apply Kd.S_alloc | apply Kd.S_drewN | apply Kd.S_drew)); exact Kd.S_mono (Kd.S_far (p := ⟨gb398, 5, none⟩) (Kd.S_far (p := ⟨gb399, 2, none⟩) (Kd.S_far (p := ⟨gb399, 1, none⟩) (Kd.S_far (p := ⟨gb399, 0, none⟩) (Kd.S_types (Kd.S_types HO_399003.out BK399.out (by decide)) BK398.out (by decide)) (fun _ hk => hk.1.2) (.string t432)) (fun _ hk => hk.1.2) (.int .i64 t433)) (fun _ hk => hk.1.2) (.int .i64 t434)) (fun _ hk => hk.2) (.slice Ao149 t435.length co149)) (fun _ hk => ⟨hk.1.1.1, hk.1.1.2⟩)⟩
                 have n3_ : Aside0 (Kd.R k88 88 ((((w147.setCell ⟨gb399, 0, none⟩ (.string t432)).setCell ⟨gb399, 1, none⟩ (.int .i64 t433)).setCell ⟨gb399, 2, none⟩ (.int .i64 t434)).setCell ⟨gb398, 5, none⟩ (.slice Ao149 t435.length co149)) w.heap.size (fun _ => True) (.slice Ao149 t435.length co149) t435) := ⟨by (with_reducible repeat (first | apply Kd.R_alloc | apply Kd.R_drewN | apply Kd.R_drew)); exact Kd.R_mono (Kd.R_far (p := ⟨gb398, 5, none⟩) (Kd.R_far (p := ⟨gb399, 2, none⟩) (Kd.R_far (p := ⟨gb399, 1, none⟩) (Kd.R_far (p := ⟨gb399, 0, none⟩) (Kd.R_types (Kd.R_types HO437.out BK399.out (by decide)) BK398.out (by decide)) (fun _ hk => hk.1.2) (.string t432)) (fun _ hk => hk.1.2) (.int .i64 t433)) (fun _ hk => hk.1.2) (.int .i64 t434)) (fun _ hk => hk.2) (.slice Ao149 t435.length co149)) (fun _ hk => trivial)⟩
                 have n4_ : Aside0 (((((w147.setCell ⟨gb399, 0, none⟩ (.string t432)).setCell ⟨gb399, 1, none⟩ (.int .i64 t433)).setCell ⟨gb399, 2, none⟩ (.int .i64 t434)).setCell ⟨gb398, 5, none⟩ (.slice Ao149 t435.length co149)).heap[gb397]? = some (.cells #[.string (⟨#[]⟩ : ByteArray), .slice none 0 0, .slice none 0 0, .slice none 0 0, .bool false, .slice none 0 0] 26 (0, 0))) := ⟨bq BK397.out⟩
                 have n5_ : Aside0 (((((w147.setCell ⟨gb399, 0, none⟩ (.string t432)).setCell ⟨gb399, 1, none⟩ (.int .i64 t433)).setCell ⟨gb399, 2, none⟩ (.int .i64 t434)).setCell ⟨gb398, 5, none⟩ (.slice Ao149 t435.length co149)).heap[gb398]? = some (.cells #[.string t403, u399001, .slice Ao51 t423.length co51, .slice Ao56 t429.length co56, .bool x399004_85, .slice Ao149 t435.length co149] 26 (0, 0))) := ⟨bp BK398.out⟩
                 have n6_ : Aside0 (((((w147.setCell ⟨gb399, 0, none⟩ (.string t432)).setCell ⟨gb399, 1, none⟩ (.int .i64 t433)).setCell ⟨gb399, 2, none⟩ (.int .i64 t434)).setCell ⟨gb398, 5, none⟩ (.slice Ao149 t435.length co149)).heap[gb399]? = some (.cells #[.string t432, .int .i64 t433, .int .i64 t434] 64 (0, 0))) := ⟨bp BK399.out⟩
                 have n7_ : Aside0 (Below w.heap.size w ((((w147.setCell ⟨gb399, 0, none⟩ (.string t432)).setCell ⟨gb399, 1, none⟩ (.int .i64 t433)).setCell ⟨gb399, 2, none⟩ (.int .i64 t434)).setCell ⟨gb398, 5, none⟩ (.slice Ao149 t435.length co149))) := ⟨wk HB.out⟩
                 (try clear HO_399001)
                 (try clear HO_399002)
                 (try clear HO_399003)
                 (try clear HO437)
                 (try clear BK397)
                 (try clear BK398)
                 (try clear BK399)
                 (try clear HB)
                 generalize ((((w147.setCell ⟨gb399, 0, none⟩ (.string t432)).setCell ⟨gb399, 1, none⟩ (.int .i64 t433)).setCell ⟨gb399, 2, none⟩ (.int .i64 t434)).setCell ⟨gb398, 5, none⟩ (.slice Ao149 t435.length co149)) = w152 at n0_ n1_ n2_ n3_ n4_ n5_ n6_ n7_ ⊢
                 have HO_399001 := n0_
                 have HO_399002 := n1_
                 have HO_399003 := n2_
                 have HO437 := n3_
                 have BK397 := n4_
                 have BK398 := n5_
                 have BK399 := n6_
                 have HB := n7_
                 clear n0_ n1_ n2_ n3_ n4_ n5_ n6_ n7_
                 have n0_ := aS_ (Kd.R_drew HO_399001.out)
                 have n1_ := aS_ (Kd.S_drew HO_399002.out)
                 have n2_ := aS_ (Kd.S_drew HO_399003.out)
                 have n3_ := aS_ (Kd.R_drew HO437.out)
                 have n4_ := aS_ (bD BK397.out)
                 have n5_ := aS_ (bD BK398.out)
                 have n6_ := aS_ (bD BK399.out)
                 have n7_ := aS_ (w1_ HB.out)
                 clear HO_399001
                 clear HO_399002
                 clear HO_399003
                 clear HO437
                 clear BK397
                 clear BK398
                 clear BK399
                 clear HB
                 have HO_399001 := n0_
                 have HO_399002 := n1_
                 have HO_399003 := n2_
                 have HO437 := n3_
                 have BK397 := n4_
                 have BK398 := n5_
                 have BK399 := n6_
                 have HB := n7_
                 clear n0_ n1_ n2_ n3_ n4_ n5_ n6_ n7_
                 refine start_ (n := 5) (S := fun w' => w'.cell? ⟨gb399, 0, none⟩ = some (.string t432) ∧ w'.cell? ⟨gb399, 1, none⟩ = some (.int .i64 t433) ∧ w'.cell? ⟨gb399, 2, none⟩ = some (.int .i64 t434)) (ds := []) #[false, false, false, false, false] (by kernel_rfl) rfl rfl ⟨(blk_cell BK399.out 0).trans rfl, (blk_cell BK399.out 1).trans rfl, (blk_cell BK399.out 2).trans rfl⟩ (fun hHeld => ?_)
                 generalize w152.drew = w153 at HO_399001 HO_399002 HO_399003 HO437 BK397 BK398 BK399 HB hHeld ⊢
                 refine pure_ (i := 0) (N := some 106) (v := ?_) (a' := ?_) #[true, false, false, false, false] rfl rfl (by kernel_rfl) (fun _ _ _ h => h) (Or.inl ⟨by rfl, ?_⟩) ?_ ?_
                 rotate_left
                 ·intro w'
                  go_simp
                  with_reducible rfl
                 rotate_left
                 ·simp only [Act.put, List.setIfInBounds_toArray, List.set_cons_zero, List.set_cons_succ, i64_w, i32_w]
                  rfl
                 refine pure_ (i := 1) (N := some 107) (v := ?_) (a' := ?_) #[true, true, false, false, false] rfl rfl (by kernel_rfl) (fun _ _ _ h => h) (Or.inl ⟨by rfl, ?_⟩) ?_ ?_
                 rotate_left
                 ·intro w'
                  go_simp
                  with_reducible rfl
                 rotate_left
                 ·simp only [Act.put, List.setIfInBounds_toArray, List.set_cons_zero, List.set_cons_succ, i64_w, i32_w]
                  rfl
                 refine take_ (i := 2) (N := some 108) (v := ?_) (a' := ?_) #[true, true, true, false, false] rfl rfl (by kernel_rfl) (fun _ _ _ h => h) (Or.inl ⟨by rfl, ?_⟩) hHeld ?_ ?_
                 rotate_left
                 ·rintro w' ⟨s0, s1, s2⟩
                  go_simp
                  with_reducible rfl
                 rotate_left
                 ·simp only [Act.put, List.setIfInBounds_toArray, List.set_cons_zero, List.set_cons_succ, i64_w, i32_w]
                  rfl
                 refine one_ (i := 3) (N := none) #[true, true, true, true, false] rfl rfl (by kernel_rfl) (by decide) (fun K hK => ?_)
                 have hs154 : w153.cell? ⟨gb397, 0, none⟩ = some (.string (⟨#[]⟩ : ByteArray)) := (blk_cell BK397.out 0).trans rfl
                 have hfs154 := blk_frozen BK397.out 0
                 have hns154_1 := NB398_397.out
                 have hns154_2 := NB399_397.out
                 have hms154_1 := NB397_398.out
                 have hms154_2 := NB397_399.out
                 have hs155 : w153.cell? ⟨gb397, 1, none⟩ = some (.slice none 0 0) := (blk_cell BK397.out 1).trans rfl
                 have hfs155 := blk_frozen BK397.out 1
                 have hns155_1 := NB398_397.out
                 have hns155_2 := NB399_397.out
                 have hms155_1 := NB397_398.out
                 have hms155_2 := NB397_399.out
                 have hs156 : w153.cell? ⟨gb397, 2, none⟩ = some (.slice none 0 0) := (blk_cell BK397.out 2).trans rfl
                 have hfs156 := blk_frozen BK397.out 2
                 have hns156_1 := NB398_397.out
                 have hns156_2 := NB399_397.out
                 have hms156_1 := NB397_398.out
                 have hms156_2 := NB397_399.out
                 have hs157 : w153.cell? ⟨gb397, 3, none⟩ = some (.slice none 0 0) := (blk_cell BK397.out 3).trans rfl
                 have hfs157 := blk_frozen BK397.out 3
                 have hns157_1 := NB398_397.out
                 have hns157_2 := NB399_397.out
                 have hms157_1 := NB397_398.out
                 have hms157_2 := NB397_399.out
                 have hs158 : w153.cell? ⟨gb397, 4, none⟩ = some (.bool false) := (blk_cell BK397.out 4).trans rfl
                 have hfs158 := blk_frozen BK397.out 4
                 have hns158_1 := NB398_397.out
                 have hns158_2 := NB399_397.out
                 have hms158_1 := NB397_398.out
                 have hms158_2 := NB397_399.out
                 have hs159 : w153.cell? ⟨gb397, 5, none⟩ = some (.slice none 0 0) := (blk_cell BK397.out 5).trans rfl
                 have hfs159 := blk_frozen BK397.out 5
                 have hns159_1 := NB398_397.out
                 have hns159_2 := NB399_397.out
                 have hms159_1 := NB397_398.out
                 have hms159_2 := NB397_399.out
                 refine skip_ (w1 := ?_) (by rfl) rfl ?_ ?_
                 rotate_left
                 ·go_simp
                  rfl
                 refine hK.out _ _ ⟨((cell_far (p := ⟨gb397, _, none⟩) NB399_397.out _).trans (((cell_far (p := ⟨gb397, _, none⟩) NB399_397.out _).trans (((cell_far (p := ⟨gb397, _, none⟩) NB399_397.out _).trans (((cell_far (p := ⟨gb397, _, none⟩) NB399_397.out _).trans (((cell_far (p := ⟨gb397, _, none⟩) NB399_397.out _).trans (((cell_far (p := ⟨gb397, _, none⟩) NB399_397.out _).trans (hHeld.1)))))))))))), ((cell_far (p := ⟨gb397, _, none⟩) NB399_397.out _).trans (((cell_far (p := ⟨gb397, _, none⟩) NB399_397.out _).trans (((cell_far (p := ⟨gb397, _, none⟩) NB399_397.out _).trans (((cell_far (p := ⟨gb397, _, none⟩) NB399_397.out _).trans (((cell_far (p := ⟨gb397, _, none⟩) NB399_397.out _).trans (((cell_far (p := ⟨gb397, _, none⟩) NB399_397.out _).trans (hHeld.2.1)))))))))))), ((cell_far (p := ⟨gb397, _, none⟩) NB399_397.out _).trans (((cell_far (p := ⟨gb397, _, none⟩) NB399_397.out _).trans (((cell_far (p := ⟨gb397, _, none⟩) NB399_397.out _).trans (((cell_far (p := ⟨gb397, _, none⟩) NB399_397.out _).trans (((cell_far (p := ⟨gb397, _, none⟩) NB399_397.out _).trans (((cell_far (p := ⟨gb397, _, none⟩) NB399_397.out _).trans (hHeld.2.2))))))))))))⟩ (fun hHeld => ?_)
                 clear hK K
                 refine pure_ (i := 4) (N := some 3) (v := ?_) (a' := ?_) #[true, true, true, true, true] rfl rfl (by kernel_rfl) (fun _ _ _ h => h) (Or.inl ⟨by rfl, ?_⟩) ?_ ?_
                 rotate_left
                 ·intro w'
                  go_simp
                  with_reducible rfl
                 rotate_left
                 ·simp only [Act.put, List.setIfInBounds_toArray, List.set_cons_zero, List.set_cons_succ, i64_w, i32_w]
                  rfl
                 refine done_ (by kernel_rfl) ?_
                 try go_wp2
                 refine bodyPost_ret (results_ct rfl _ _ gb397 26 #[.string (⟨#[]⟩ : ByteArray), .slice none 0 0, .slice none 0 0, .slice none 0 0, .bool false, .slice none 0 0] (0, 0) _ rfl (bp BK397.out) Try.underlying26 rfl (by kernel_rfl)) rfl ?_
                 exact ⟨_, _, _, _, t1, by first | exact Kd.R_nil _ _ _ _ _ | exact Kd.N_nil _ _ _ _ _ | exact Kd.V_nil _ _ _ _ _ | exact Kd.Q_nil _ _ _ _ _ | exact Kd.S_nil _ _ _ _ _, by first | exact Kd.S_nil _ _ _ _ _ | exact Kd.N_nil _ _ _ _ _ | exact Kd.V_nil _ _ _ _ _ | exact Kd.Q_nil _ _ _ _ _ | exact Kd.R_nil _ _ _ _ _, by first | exact Kd.S_nil _ _ _ _ _ | exact Kd.N_nil _ _ _ _ _ | exact Kd.V_nil _ _ _ _ _ | exact Kd.Q_nil _ _ _ _ _ | exact Kd.R_nil _ _ _ _ _, by first | exact Kd.R_nil _ _ _ _ _ | exact Kd.N_nil _ _ _ _ _ | exact Kd.V_nil _ _ _ _ _ | exact Kd.Q_nil _ _ _ _ _ | exact Kd.S_nil _ _ _ _ _, wk HB.out⟩
end Go.Proofs.Ytnndanfghlnpfaa.P
